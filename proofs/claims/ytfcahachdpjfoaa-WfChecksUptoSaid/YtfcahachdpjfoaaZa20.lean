/- Texts joined by a program of mine: Sa Sb. -/
import Derived.Outline
import Derived.Test.YtfcahachdpjfoaaZa8
import Derived.Test.YtfcahachdpjfoaaZa19
section
namespace Go.Proofs.Ytfcahachdpjfoaa.L
open Go.RowKit Go.Proofs.YtfcahachdpjfoaaW.PrintWords Go.Proofs.YtfcahachdpjfoaaW.PrintLast Go.Proofs.YtfcahachdpjfoaaW.PrintMore Go.Proofs.Ytfcahachdpjfoaa.Gr
set_option linter.unusedVariables false
set_option linter.unusedSimpArgs false
attribute [local go_sem] G.cell
theorem no_calls (e : Int) (w : World) : Calls Try.prog 14 #[.int .i64 e] w fun e' w' => e' = .returned (.int .i64 e) ∧ Below w.heap.size w w' := by
  go_enter Try.func14, Try.ntmps14
  go_wp2
  go_ret
  exact ⟨rfl, Below.refl _ _⟩
theorem name_calls (s : ByteArray) (w : World) : Calls Try.prog 34 #[.string s] w fun e w' => e = .returned (.agg #[.int .i64 2, .int .u64 0, .string s, .slice none 0 0]) ∧ Below w.heap.size w w' := by
  go_enter Try.func34, Try.ntmps34
  go_wp2
  exact bodyPost_ret (v := .agg #[.int .i64 2, .int .u64 0, .string s, .slice none 0 0]) (by simp [results, Try.results34, go_sem]) rfl ⟨rfl, (Below.refl _ _).alloc (Nat.le_refl _) _⟩
theorem G.frozen {w : World} (g : G w) {b o : Nat} (h : b < w.heap.size) : g.W.frozen? ⟨b, o, none⟩ = w.frozen? ⟨b, o, none⟩ := g.below.frozen (p := ⟨b, o, none⟩) h
attribute [local go_sem] G.frozen
set_option maxHeartbeats 1000000 in
set_option maxRecDepth 100000 in
theorem live_calls (w : World) : Calls Try.prog 16 #[] w fun e w' => e = .returned (.bool true) ∧ Below w.heap.size w w' := by
  go_enter Try.func16, Try.ntmps16
  go_upto_region 3 with (fail)
  refine wp_grown0 ?_
  intro gg
  have gout : ∀ (g : G (gw0 gg)), Below w.heap.size w g.W := fun g => ((((Below.refl _ _).alloc (Nat.le_refl _) _).alloc (by simp) _).alloc (by simp; omega) _).trans (g.below.mono (by simp [gw0]; omega))
  have KB : ∀ g : G (gw0 gg), g.W.heap[w.heap.size + 1 + 1]? = some (.cells #[.string ⟨#[112]⟩, .int .i64 32, .int .i64 1, .slice (some ⟨w.heap.size + 1, 0, none⟩) 1 1, .slice none 0 0] 29 (0, 0)) := fun g => blk_below (by simpa using blk_new ((w.alloc (.cells #[.int .i64 5, .string ⟨#[120]⟩, .int .i64 0, .slice none 0 0] 44)).alloc (.cells #[.int .i64 5, .string ⟨#[120]⟩, .int .i64 0, .slice none 0 0] 44)) (.cells #[.string ⟨#[112]⟩, .int .i64 32, .int .i64 1, .slice (some ⟨w.heap.size + 1, 0, none⟩) 1 1, .slice none 0 0] 29)) g.below
  have z4 : ∀ (g : G (gw0 gg)) (o1 o2 o3 : Obj), (((g.W.alloc o1).alloc o2).alloc o3).cell? ⟨w.heap.size + 1 + 1, 4, none⟩ = some (.slice none 0 0) := fun g o1 o2 o3 => (blk_cell (blk_alloc (blk_alloc (blk_alloc (KB g) _) _) _) 4).trans rfl
  have y4 : ∀ (g : G (gw0 gg)) (o1 o2 o3 : Obj), (((g.W.alloc o1).alloc o2).alloc o3).frozen? ⟨w.heap.size + 1 + 1, 4, none⟩ = false := fun g o1 o2 o3 => blk_frozen (blk_alloc (blk_alloc (blk_alloc (KB g) _) _) _) 4
  have KBA := Aside0.mk KB
  clear KB
  go_upto_region 4 with (go_at_call 34; refine (call_of (g := gg) (name_calls _ gg.W)).mono ?_; rintro _ _ ⟨rfl, gg, rfl⟩)
  refine wp_grown0 ?_
  intro g2
  have lw : w.heap.size + 1 + 1 < gg.W.heap.size := blk_lt (KBA.out gg)
  have KP := Aside0.mk (show (gw0 g2).heap[w.heap.size + 1 + 1]? = some (.cells #[.string ⟨#[112]⟩, .int .i64 32, .int .i64 1, .slice (some ⟨w.heap.size + 1, 0, none⟩) 1 1, .slice (some ⟨gg.W.heap.size + 1 + 1, 0, none⟩) 1 1] 29 (0, 0)) from blk_put (blk_alloc (blk_alloc (blk_alloc (KBA.out gg) _) _) _) 4 _ rfl)
  have KD := Aside0.mk (show (gw0 g2).heap[w.heap.size + 1]? = some (.cells #[.int .i64 5, .string ⟨#[120]⟩, .int .i64 0, .slice none 0 0] 44 (0, 0)) from (Below.heap_setCell _ _ _ _ (by simp)).trans (blk_alloc (blk_alloc (blk_alloc (blk_below (show (gw0 gg).heap[w.heap.size + 1]? = some (.cells #[.int .i64 5, .string ⟨#[120]⟩, .int .i64 0, .slice none 0 0] 44 (0, 0)) from blk_alloc (by simpa using blk_new (w.alloc (.cells #[.int .i64 5, .string ⟨#[120]⟩, .int .i64 0, .slice none 0 0] 44)) (.cells #[.int .i64 5, .string ⟨#[120]⟩, .int .i64 0, .slice none 0 0] 44)) _) gg.below) _) _) _))
  have KK := Aside0.mk (show (gw0 g2).heap[gg.W.heap.size]? = some (.cells #[.int .i64 2, .int .u64 0, .string ⟨#[120]⟩, .slice none 0 0, .int .i64 2, .int .u64 0, .string ⟨#[105]⟩, .slice none 0 0] 75 (0, 0)) from (Below.heap_setCell _ _ _ _ (by simp; omega)).trans (blk_alloc (blk_alloc (blk_new gg.W _) _) _))
  have KS := Aside0.mk (show (gw0 g2).heap[gg.W.heap.size + 1]? = some (.cells #[.int .i64 1, .string ⟨#[120]⟩, .int .i64 0, .int .u64 0, .string ⟨#[]⟩, .slice none 0 0, .int .i64 9, .int .u64 0, .string ⟨#[]⟩, .slice (some ⟨gg.W.heap.size, 0, none⟩) 2 2, .int .u64 0, .int .u64 0, .slice none 0 0, .slice none 0 0] 77 (0, 0)) from (Below.heap_setCell _ _ _ _ (by simp; omega)).trans (blk_alloc (by simpa using blk_new (gg.W.alloc (.cells #[.int .i64 2, .int .u64 0, .string ⟨#[120]⟩, .slice none 0 0, .int .i64 2, .int .u64 0, .string ⟨#[105]⟩, .slice none 0 0] 75)) (.cells #[.int .i64 1, .string ⟨#[120]⟩, .int .i64 0, .int .u64 0, .string ⟨#[]⟩, .slice none 0 0, .int .i64 9, .int .u64 0, .string ⟨#[]⟩, .slice (some ⟨gg.W.heap.size, 0, none⟩) 2 2, .int .u64 0, .int .u64 0, .slice none 0 0, .slice none 0 0] 77)) _))
  have KF := Aside0.mk (show (gw0 g2).heap[gg.W.heap.size + 1 + 1]? = some (.cells #[.int .i64 4, .string ⟨#[105]⟩, .int .i64 0, .int .u64 0, .string ⟨#[]⟩, .slice none 0 0, .int .i64 0, .int .u64 0, .string ⟨#[]⟩, .slice none 0 0, .int .u64 0, .int .u64 4, .slice (some ⟨gg.W.heap.size + 1, 0, none⟩) 1 1, .slice none 0 0] 77 (0, 0)) from (Below.heap_setCell _ _ _ _ (by simp; omega)).trans (by simpa using blk_new ((gg.W.alloc (.cells #[.int .i64 2, .int .u64 0, .string ⟨#[120]⟩, .slice none 0 0, .int .i64 2, .int .u64 0, .string ⟨#[105]⟩, .slice none 0 0] 75)).alloc (.cells #[.int .i64 1, .string ⟨#[120]⟩, .int .i64 0, .int .u64 0, .string ⟨#[]⟩, .slice none 0 0, .int .i64 9, .int .u64 0, .string ⟨#[]⟩, .slice (some ⟨gg.W.heap.size, 0, none⟩) 2 2, .int .u64 0, .int .u64 0, .slice none 0 0, .slice none 0 0] 77)) (.cells #[.int .i64 4, .string ⟨#[105]⟩, .int .i64 0, .int .u64 0, .string ⟨#[]⟩, .slice none 0 0, .int .i64 0, .int .u64 0, .string ⟨#[]⟩, .slice none 0 0, .int .u64 0, .int .u64 4, .slice (some ⟨gg.W.heap.size + 1, 0, none⟩) 1 1, .slice none 0 0] 77)))
  have PA := Aside0.mk (live_at KD.out KK.out KS.out KF.out)
  have goutX : ∀ g : G (gw0 g2), Below w.heap.size w g.W := fun g => (((((gout gg).alloc (gout gg).size _).alloc (by have := (gout gg).size; simp; omega) _).alloc (by have := (gout gg).size; simp; omega) _).setCell (p := ⟨w.heap.size + 1 + 1, 4, none⟩) (by simp; omega) _).trans (g.below.mono (by simp [gw0]; omega))
  have x0 : ∀ g : G (gw0 g2), g.W.cell? ⟨w.heap.size + 1 + 1, 0, none⟩ = some (.string ⟨#[112]⟩) := fun g => (blk_cell (blk_below KP.out g.below) 0).trans rfl
  have x1 : ∀ g : G (gw0 g2), g.W.cell? ⟨w.heap.size + 1 + 1, 1, none⟩ = some (.int .i64 32) := fun g => (blk_cell (blk_below KP.out g.below) 1).trans rfl
  have x2 : ∀ g : G (gw0 g2), g.W.cell? ⟨w.heap.size + 1 + 1, 2, none⟩ = some (.int .i64 1) := fun g => (blk_cell (blk_below KP.out g.below) 2).trans rfl
  have x3 : ∀ g : G (gw0 g2), g.W.cell? ⟨w.heap.size + 1 + 1, 3, none⟩ = some (.slice (some ⟨w.heap.size + 1, 0, none⟩) 1 1) := fun g => (blk_cell (blk_below KP.out g.below) 3).trans rfl
  have x4 : ∀ g : G (gw0 g2), g.W.cell? ⟨w.heap.size + 1 + 1, 4, none⟩ = some (.slice (some ⟨gg.W.heap.size + 1 + 1, 0, none⟩) 1 1) := fun g => (blk_cell (blk_below KP.out g.below) 4).trans rfl
  clear z4 y4
  have LW := Aside0.mk lw
  clear lw
  go_upto_region 6 with (go_at_call 12; refine (call_of (g := g2) (size_calls ⟨#[112]⟩ 32 1 liveD liveB _ _ _ _ g2.W (PA.out.below g2.below) live_good (21, 0) live_size.symm)).mono ?_; rintro _ _ ⟨rfl, g2, rfl⟩)
  refine wp_grown0 ?_
  intro g3
  have Q3 : ∀ g : G (gw0 g3), g.W.heap[g2.W.heap.size]? = some (.cells #[.string ⟨#[112]⟩, .int .i64 32, .int .i64 1, .slice (some ⟨w.heap.size + 1, 0, none⟩) 1 1, .slice (some ⟨gg.W.heap.size + 1 + 1, 0, none⟩) 1 1] 29 (0, 0)) := fun g => blk_below (blk_new _ _) g.below
  have z4 : ∀ (g : G (gw0 g3)) (o : Obj), (g.W.alloc o).cell? ⟨g2.W.heap.size, 4, none⟩ = some (.slice (some ⟨gg.W.heap.size + 1 + 1, 0, none⟩) 1 1) := fun g o => (blk_cell (blk_alloc (Q3 g) _) 4).trans rfl
  have y4 : ∀ (g : G (gw0 g3)) (o : Obj), (g.W.alloc o).frozen? ⟨g2.W.heap.size, 4, none⟩ = false := fun g o => blk_frozen (blk_alloc (Q3 g) _) 4
  have QA := Aside0.mk Q3
  clear Q3
  have G3 := Aside0.mk (show ∀ g : G (gw0 g3), Below (gw0 g2).heap.size (gw0 g2) g.W from fun g => (g2.below.alloc g2.below.size _).trans (g.below.mono (Nat.le_trans g2.below.size (by simp [gw0]))))
  go_upto_region 7 with (go_at_call 34; refine (call_of (g := g3) (name_calls _ g3.W)).mono ?_; rintro _ _ ⟨rfl, g3, rfl⟩)
  clear z4 y4
  refine wp_grown0 ?_
  intro g4
  have l3 : g2.W.heap.size < g3.W.heap.size := blk_lt (QA.out g3)
  have KQ := Aside0.mk (show (gw0 g4).heap[g2.W.heap.size]? = some (.cells #[.string ⟨#[112]⟩, .int .i64 32, .int .i64 1, .slice (some ⟨w.heap.size + 1, 0, none⟩) 1 1, .slice (some ⟨g3.W.heap.size, 0, none⟩) 1 1] 29 (0, 0)) from blk_put (blk_alloc (QA.out g3) _) 4 _ rfl)
  have KR := Aside0.mk (show (gw0 g4).heap[g3.W.heap.size]? = some (.cells #[.int .i64 1, .string ⟨#[120]⟩, .int .i64 0, .int .u64 0, .string ⟨#[]⟩, .slice none 0 0, .int .i64 2, .int .u64 0, .string ⟨#[121]⟩, .slice none 0 0, .int .u64 0, .int .u64 0, .slice none 0 0, .slice none 0 0] 77 (0, 0)) from (Below.heap_setCell _ _ _ _ (by simp; omega)).trans (blk_new g3.W _))
  have GX := Aside0.mk (show ∀ g : G (gw0 g4), Below (gw0 g2).heap.size (gw0 g2) g.W from fun g => (((G3.out g3).alloc (G3.out g3).size _).setCell (p := ⟨g2.W.heap.size, 4, none⟩) g2.below.size _).trans (g.below.mono (Nat.le_trans (G3.out g3).size (by simp [gw0]))))
  have KD2 := Aside0.mk (show (gw0 g4).heap[w.heap.size + 1]? = some (.cells #[.int .i64 5, .string ⟨#[120]⟩, .int .i64 0, .slice none 0 0] 44 (0, 0)) from blk_below KD.out (GX.out (mkG (Below.refl _ _))))
  have PQ := Aside0.mk (live_atQ KD2.out KR.out)
  have v0 : ∀ g : G (gw0 g4), g.W.cell? ⟨g2.W.heap.size, 0, none⟩ = some (.string ⟨#[112]⟩) := fun g => (blk_cell (blk_below KQ.out g.below) 0).trans rfl
  have v1 : ∀ g : G (gw0 g4), g.W.cell? ⟨g2.W.heap.size, 1, none⟩ = some (.int .i64 32) := fun g => (blk_cell (blk_below KQ.out g.below) 1).trans rfl
  have v2 : ∀ g : G (gw0 g4), g.W.cell? ⟨g2.W.heap.size, 2, none⟩ = some (.int .i64 1) := fun g => (blk_cell (blk_below KQ.out g.below) 2).trans rfl
  have v3 : ∀ g : G (gw0 g4), g.W.cell? ⟨g2.W.heap.size, 3, none⟩ = some (.slice (some ⟨w.heap.size + 1, 0, none⟩) 1 1) := fun g => (blk_cell (blk_below KQ.out g.below) 3).trans rfl
  have v4 : ∀ g : G (gw0 g4), g.W.cell? ⟨g2.W.heap.size, 4, none⟩ = some (.slice (some ⟨g3.W.heap.size, 0, none⟩) 1 1) := fun g => (blk_cell (blk_below KQ.out g.below) 4).trans rfl
  clear x0 x1 x2 x3 x4
  have KP4 := Aside0.mk (fun g => blk_below KP.out (GX.out g))
  have x0 : ∀ g : G (gw0 g4), g.W.cell? ⟨w.heap.size + 1 + 1, 0, none⟩ = some (.string ⟨#[112]⟩) := fun g => (blk_cell (KP4.out g) 0).trans rfl
  have x1 : ∀ g : G (gw0 g4), g.W.cell? ⟨w.heap.size + 1 + 1, 1, none⟩ = some (.int .i64 32) := fun g => (blk_cell (KP4.out g) 1).trans rfl
  have x2 : ∀ g : G (gw0 g4), g.W.cell? ⟨w.heap.size + 1 + 1, 2, none⟩ = some (.int .i64 1) := fun g => (blk_cell (KP4.out g) 2).trans rfl
  have x3 : ∀ g : G (gw0 g4), g.W.cell? ⟨w.heap.size + 1 + 1, 3, none⟩ = some (.slice (some ⟨w.heap.size + 1, 0, none⟩) 1 1) := fun g => (blk_cell (KP4.out g) 3).trans rfl
  have x4 : ∀ g : G (gw0 g4), g.W.cell? ⟨w.heap.size + 1 + 1, 4, none⟩ = some (.slice (some ⟨gg.W.heap.size + 1 + 1, 0, none⟩) 1 1) := fun g => (blk_cell (KP4.out g) 4).trans rfl
  clear l3
  go_wp2_with fail
  refine (call_of (g := g4) (fault_calls ⟨#[112]⟩ 32 1 liveD liveQ _ _ _ _ g4.W (PQ.out.below g4.below) live_goodQ ⟨11, 2, 161⟩ live_faultQ.symm)).mono ?_
  rintro _ _ ⟨rfl, g4, rfl⟩
  go_wp2_with fail
  refine (call_of (g := g4) (check_calls ⟨#[112]⟩ 32 1 liveD liveB _ _ _ _ g4.W (PA.out.below (GX.out g4)) live_good ⟨0, 0, 0⟩ live_fault.symm)).mono ?_
  rintro _ _ ⟨rfl, g4, rfl⟩
  go_wp2_with fail
  refine (call_of (g := g4) (no_calls _ g4.W)).mono ?_
  rintro _ _ ⟨rfl, g4, rfl⟩
  go_wp2_with fail
  refine (call_of (g := g4) (no_calls _ g4.W)).mono ?_
  rintro _ _ ⟨rfl, g4, rfl⟩
  go_wp2_with fail
  refine (call_of (g := g4) (no_calls _ g4.W)).mono ?_
  rintro _ _ ⟨rfl, g4, rfl⟩
  go_wp2_with fail
  go_ret
  exact ⟨rfl, goutX (mkG (GX.out g4))⟩
end Go.Proofs.Ytfcahachdpjfoaa.L
end
section
namespace Go.Proofs.Ytfcahachdpjfoaa.L
open Go.RowKit Go.Proofs.YtfcahachdpjfoaaW.PrintWords Go.Proofs.YtfcahachdpjfoaaW.PrintLast Go.Proofs.YtfcahachdpjfoaaW.PrintMore Go.Proofs.Ytfcahachdpjfoaa.Gr
set_option linter.unusedVariables false
set_option linter.unusedSimpArgs false
attribute [local go_sem] G.cell
set_option maxHeartbeats 1000000 in
set_option maxRecDepth 100000 in
theorem wfChecks_walk (nm : ByteArray) (wd ln : Int) (ds : List S44) (bd : List S77) (A3 : Option Addr) (c3 : Nat) (A4 : Option Addr) (c4 : Nat) (w : World) (hp : ProgAt w ds bd A3 c3 A4 c4) (hg : PGood nm wd ln ds bd) :
    Calls Try.prog 4 #[.agg #[.string nm, .int .i64 wd, .int .i64 ln, .slice A3 ds.length c3, .slice A4 bd.length c4]] w fun e w' => e = .returned (.bool true) ∧ Below w.heap.size w w' := by
  have gout : ∀ {o : Obj} (g : G (w.alloc o)), Below w.heap.size w g.W := fun g => ((Below.refl _ _).alloc (Nat.le_refl _) _).trans (g.below.mono (by simp))
  have PAt := Aside0.mk hp
  have HG := Aside0.mk hg
  clear hp hg
  obtain ⟨f, hf⟩ : ∃ f, f = faultS nm wd ln ds bd := ⟨_, rfl⟩
  have HF := Aside0.mk hf
  clear hf
  obtain ⟨s, hs⟩ : ∃ s, s = sizeS 65537 nm wd ln ds bd := ⟨_, rfl⟩
  have HS := Aside0.mk hs
  have HS2 := Aside0.mk (hs.trans sizeS_cap.symm)
  clear hs
  go_enter Try.func4, Try.ntmps4
  go_upto_region 1 with (fail)
  refine wp_grown0 ?_
  intro gg
  go_wp2_with fail
  refine (call_of (g := gg) (fault_calls nm wd ln ds bd A3 c3 A4 c4 gg.W (PAt.out.below (gout gg)) HG.out f HF.out)).mono ?_
  rintro _ _ ⟨rfl, gg, rfl⟩
  go_wp2_with fail
  refine (call_of (g := gg) (refFault_calls nm wd ln ds bd A3 c3 A4 c4 gg.W (PAt.out.below (gout gg)) HG.out f HF.out)).mono ?_
  rintro _ _ ⟨rfl, gg, rfl⟩
  go_wp2_with fail
  refine (call_of (g := gg) (size_calls nm wd ln ds bd A3 c3 A4 c4 gg.W (PAt.out.below (gout gg)) HG.out s HS2.out)).mono ?_
  rintro _ _ ⟨rfl, gg, rfl⟩
  go_wp2_with fail
  refine (call_of (g := gg) (refSizeTop_calls nm wd ln ds bd A3 c3 A4 c4 gg.W (PAt.out.below (gout gg)) HG.out s HS.out)).mono ?_
  rintro _ _ ⟨rfl, gg, rfl⟩
  go_wp2_with fail
  refine (call_of (g := gg) (no_calls _ gg.W)).mono ?_
  rintro _ _ ⟨rfl, gg, rfl⟩
  go_wp2_with fail
  refine (call_of (g := gg) (check_calls nm wd ln ds bd A3 c3 A4 c4 gg.W (PAt.out.below (gout gg)) HG.out f HF.out)).mono ?_
  rintro _ _ ⟨rfl, gg, rfl⟩
  go_wp2_with fail
  refine (call_of (g := gg) (no_calls _ gg.W)).mono ?_
  rintro _ _ ⟨rfl, gg, rfl⟩
  go_wp2_with fail
  refine (call_of (g := gg) (live_calls gg.W)).mono ?_
  rintro _ _ ⟨rfl, gg, rfl⟩
  go_wp2_with fail
  go_ret
  exact ⟨rfl, gout _⟩
theorem wfChecks_law (v0 : Value) (x0 : Ot.Prog) (w : World) (s0 : ∃ cs, v0 = .agg cs ∧ cs.size = Try.prog.cellsOf 29) (k0 : Ot.opensP_K w x0 v0.cells.toList) (g0 : Ot.opensP_good x0) {m0 : Nat} (b0 : Ot.opensP_bulk x0 ≤ m0) (up : m0 ≤ 1048576) :
    Calls Try.prog 4 #[v0] w fun e w' => e = .returned (.bool true) ∧ Below w.heap.size w w' := by
  obtain ⟨A3, c3, A4, c4, rfl, l3, g3, l4, g4⟩ := Ot.prog_of_K (s0.imp fun _ h => h.1) k0
  exact wfChecks_walk x0.nm x0.wd x0.ln x0.ds x0.bd A3 c3 A4 c4 w ⟨g3, l3, g4, l4⟩ ⟨g0, Nat.le_trans b0 up⟩
end Go.Proofs.Ytfcahachdpjfoaa.L
end
