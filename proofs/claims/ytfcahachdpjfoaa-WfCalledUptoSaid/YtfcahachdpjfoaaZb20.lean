/- Texts joined by a program of mine: Sa Ya Yb Sk Sj Oi. -/
import Derived.Outline
import Derived.Test.YtfcahachdpjfoaaZb8
import Derived.Test.YtfcahachdpjfoaaZb19
section
namespace Go.Proofs.Ytfcahachdpjfoaa.L
open Go.RowKit Go.Proofs.YtfcahachdpjfoaaW.PrintWords Go.Proofs.YtfcahachdpjfoaaW.PrintLast Go.Proofs.YtfcahachdpjfoaaW.PrintMore Go.Proofs.Ytfcahachdpjfoaa.Gr
set_option linter.unusedVariables false
set_option linter.unusedSimpArgs false
attribute [local go_sem] G.cell
theorem no_calls (e : Int) (w : World) : Calls Try.prog 14 #[.int .i64 e] w fun e' w' => e' = .returned (.int .i64 e) ∧ Below w.heap.size w w' := by
  go_enter Try.func14, Try.ntmps14
  go_wp2
  go_ret
  exact ⟨rfl, Below.refl _ _⟩
theorem name_calls (s : ByteArray) (w : World) : Calls Try.prog 34 #[.string s] w fun e w' => e = .returned (.agg #[.int .i64 2, .int .u64 0, .string s, .slice none 0 0]) ∧ Below w.heap.size w w' := by
  go_enter Try.func34, Try.ntmps34
  go_wp2
  exact bodyPost_ret (v := .agg #[.int .i64 2, .int .u64 0, .string s, .slice none 0 0]) (by simp [results, Try.results34, go_sem]) rfl ⟨rfl, (Below.refl _ _).alloc (Nat.le_refl _) _⟩
theorem G.frozen {w : World} (g : G w) {b o : Nat} (h : b < w.heap.size) : g.W.frozen? ⟨b, o, none⟩ = w.frozen? ⟨b, o, none⟩ := g.below.frozen (p := ⟨b, o, none⟩) h
attribute [local go_sem] G.frozen
set_option maxHeartbeats 1000000 in
set_option maxRecDepth 100000 in
theorem live_calls (w : World) : Calls Try.prog 16 #[] w fun e w' => e = .returned (.bool true) ∧ Below w.heap.size w w' := by
  go_enter Try.func16, Try.ntmps16
  go_upto_region 3 with (fail)
  refine wp_grown0 ?_
  intro gg
  have gout : ∀ (g : G (gw0 gg)), Below w.heap.size w g.W := fun g => ((((Below.refl _ _).alloc (Nat.le_refl _) _).alloc (by simp) _).alloc (by simp; omega) _).trans (g.below.mono (by simp [gw0]; omega))
  have KB : ∀ g : G (gw0 gg), g.W.heap[w.heap.size + 1 + 1]? = some (.cells #[.string ⟨#[112]⟩, .int .i64 32, .int .i64 1, .slice (some ⟨w.heap.size + 1, 0, none⟩) 1 1, .slice none 0 0] 29 (0, 0)) := fun g => blk_below (by simpa using blk_new ((w.alloc (.cells #[.int .i64 5, .string ⟨#[120]⟩, .int .i64 0, .slice none 0 0] 44)).alloc (.cells #[.int .i64 5, .string ⟨#[120]⟩, .int .i64 0, .slice none 0 0] 44)) (.cells #[.string ⟨#[112]⟩, .int .i64 32, .int .i64 1, .slice (some ⟨w.heap.size + 1, 0, none⟩) 1 1, .slice none 0 0] 29)) g.below
  have z4 : ∀ (g : G (gw0 gg)) (o1 o2 o3 : Obj), (((g.W.alloc o1).alloc o2).alloc o3).cell? ⟨w.heap.size + 1 + 1, 4, none⟩ = some (.slice none 0 0) := fun g o1 o2 o3 => (blk_cell (blk_alloc (blk_alloc (blk_alloc (KB g) _) _) _) 4).trans rfl
  have y4 : ∀ (g : G (gw0 gg)) (o1 o2 o3 : Obj), (((g.W.alloc o1).alloc o2).alloc o3).frozen? ⟨w.heap.size + 1 + 1, 4, none⟩ = false := fun g o1 o2 o3 => blk_frozen (blk_alloc (blk_alloc (blk_alloc (KB g) _) _) _) 4
  have KBA := Aside0.mk KB
  clear KB
  go_upto_region 4 with (go_at_call 34; refine (call_of (g := gg) (name_calls _ gg.W)).mono ?_; rintro _ _ ⟨rfl, gg, rfl⟩)
  refine wp_grown0 ?_
  intro g2
  have lw : w.heap.size + 1 + 1 < gg.W.heap.size := blk_lt (KBA.out gg)
  have KP := Aside0.mk (show (gw0 g2).heap[w.heap.size + 1 + 1]? = some (.cells #[.string ⟨#[112]⟩, .int .i64 32, .int .i64 1, .slice (some ⟨w.heap.size + 1, 0, none⟩) 1 1, .slice (some ⟨gg.W.heap.size + 1 + 1, 0, none⟩) 1 1] 29 (0, 0)) from blk_put (blk_alloc (blk_alloc (blk_alloc (KBA.out gg) _) _) _) 4 _ rfl)
  have KD := Aside0.mk (show (gw0 g2).heap[w.heap.size + 1]? = some (.cells #[.int .i64 5, .string ⟨#[120]⟩, .int .i64 0, .slice none 0 0] 44 (0, 0)) from (Below.heap_setCell _ _ _ _ (by simp)).trans (blk_alloc (blk_alloc (blk_alloc (blk_below (show (gw0 gg).heap[w.heap.size + 1]? = some (.cells #[.int .i64 5, .string ⟨#[120]⟩, .int .i64 0, .slice none 0 0] 44 (0, 0)) from blk_alloc (by simpa using blk_new (w.alloc (.cells #[.int .i64 5, .string ⟨#[120]⟩, .int .i64 0, .slice none 0 0] 44)) (.cells #[.int .i64 5, .string ⟨#[120]⟩, .int .i64 0, .slice none 0 0] 44)) _) gg.below) _) _) _))
  have KK := Aside0.mk (show (gw0 g2).heap[gg.W.heap.size]? = some (.cells #[.int .i64 2, .int .u64 0, .string ⟨#[120]⟩, .slice none 0 0, .int .i64 2, .int .u64 0, .string ⟨#[105]⟩, .slice none 0 0] 75 (0, 0)) from (Below.heap_setCell _ _ _ _ (by simp; omega)).trans (blk_alloc (blk_alloc (blk_new gg.W _) _) _))
  have KS := Aside0.mk (show (gw0 g2).heap[gg.W.heap.size + 1]? = some (.cells #[.int .i64 1, .string ⟨#[120]⟩, .int .i64 0, .int .u64 0, .string ⟨#[]⟩, .slice none 0 0, .int .i64 9, .int .u64 0, .string ⟨#[]⟩, .slice (some ⟨gg.W.heap.size, 0, none⟩) 2 2, .int .u64 0, .int .u64 0, .slice none 0 0, .slice none 0 0] 77 (0, 0)) from (Below.heap_setCell _ _ _ _ (by simp; omega)).trans (blk_alloc (by simpa using blk_new (gg.W.alloc (.cells #[.int .i64 2, .int .u64 0, .string ⟨#[120]⟩, .slice none 0 0, .int .i64 2, .int .u64 0, .string ⟨#[105]⟩, .slice none 0 0] 75)) (.cells #[.int .i64 1, .string ⟨#[120]⟩, .int .i64 0, .int .u64 0, .string ⟨#[]⟩, .slice none 0 0, .int .i64 9, .int .u64 0, .string ⟨#[]⟩, .slice (some ⟨gg.W.heap.size, 0, none⟩) 2 2, .int .u64 0, .int .u64 0, .slice none 0 0, .slice none 0 0] 77)) _))
  have KF := Aside0.mk (show (gw0 g2).heap[gg.W.heap.size + 1 + 1]? = some (.cells #[.int .i64 4, .string ⟨#[105]⟩, .int .i64 0, .int .u64 0, .string ⟨#[]⟩, .slice none 0 0, .int .i64 0, .int .u64 0, .string ⟨#[]⟩, .slice none 0 0, .int .u64 0, .int .u64 4, .slice (some ⟨gg.W.heap.size + 1, 0, none⟩) 1 1, .slice none 0 0] 77 (0, 0)) from (Below.heap_setCell _ _ _ _ (by simp; omega)).trans (by simpa using blk_new ((gg.W.alloc (.cells #[.int .i64 2, .int .u64 0, .string ⟨#[120]⟩, .slice none 0 0, .int .i64 2, .int .u64 0, .string ⟨#[105]⟩, .slice none 0 0] 75)).alloc (.cells #[.int .i64 1, .string ⟨#[120]⟩, .int .i64 0, .int .u64 0, .string ⟨#[]⟩, .slice none 0 0, .int .i64 9, .int .u64 0, .string ⟨#[]⟩, .slice (some ⟨gg.W.heap.size, 0, none⟩) 2 2, .int .u64 0, .int .u64 0, .slice none 0 0, .slice none 0 0] 77)) (.cells #[.int .i64 4, .string ⟨#[105]⟩, .int .i64 0, .int .u64 0, .string ⟨#[]⟩, .slice none 0 0, .int .i64 0, .int .u64 0, .string ⟨#[]⟩, .slice none 0 0, .int .u64 0, .int .u64 4, .slice (some ⟨gg.W.heap.size + 1, 0, none⟩) 1 1, .slice none 0 0] 77)))
  have PA := Aside0.mk (live_at KD.out KK.out KS.out KF.out)
  have goutX : ∀ g : G (gw0 g2), Below w.heap.size w g.W := fun g => (((((gout gg).alloc (gout gg).size _).alloc (by have := (gout gg).size; simp; omega) _).alloc (by have := (gout gg).size; simp; omega) _).setCell (p := ⟨w.heap.size + 1 + 1, 4, none⟩) (by simp; omega) _).trans (g.below.mono (by simp [gw0]; omega))
  have x0 : ∀ g : G (gw0 g2), g.W.cell? ⟨w.heap.size + 1 + 1, 0, none⟩ = some (.string ⟨#[112]⟩) := fun g => (blk_cell (blk_below KP.out g.below) 0).trans rfl
  have x1 : ∀ g : G (gw0 g2), g.W.cell? ⟨w.heap.size + 1 + 1, 1, none⟩ = some (.int .i64 32) := fun g => (blk_cell (blk_below KP.out g.below) 1).trans rfl
  have x2 : ∀ g : G (gw0 g2), g.W.cell? ⟨w.heap.size + 1 + 1, 2, none⟩ = some (.int .i64 1) := fun g => (blk_cell (blk_below KP.out g.below) 2).trans rfl
  have x3 : ∀ g : G (gw0 g2), g.W.cell? ⟨w.heap.size + 1 + 1, 3, none⟩ = some (.slice (some ⟨w.heap.size + 1, 0, none⟩) 1 1) := fun g => (blk_cell (blk_below KP.out g.below) 3).trans rfl
  have x4 : ∀ g : G (gw0 g2), g.W.cell? ⟨w.heap.size + 1 + 1, 4, none⟩ = some (.slice (some ⟨gg.W.heap.size + 1 + 1, 0, none⟩) 1 1) := fun g => (blk_cell (blk_below KP.out g.below) 4).trans rfl
  clear z4 y4
  have LW := Aside0.mk lw
  clear lw
  go_upto_region 6 with (go_at_call 12; refine (call_of (g := g2) (size_calls ⟨#[112]⟩ 32 1 liveD liveB _ _ _ _ g2.W (PA.out.below g2.below) live_good (21, 0) live_size.symm)).mono ?_; rintro _ _ ⟨rfl, g2, rfl⟩)
  refine wp_grown0 ?_
  intro g3
  have Q3 : ∀ g : G (gw0 g3), g.W.heap[g2.W.heap.size]? = some (.cells #[.string ⟨#[112]⟩, .int .i64 32, .int .i64 1, .slice (some ⟨w.heap.size + 1, 0, none⟩) 1 1, .slice (some ⟨gg.W.heap.size + 1 + 1, 0, none⟩) 1 1] 29 (0, 0)) := fun g => blk_below (blk_new _ _) g.below
  have z4 : ∀ (g : G (gw0 g3)) (o : Obj), (g.W.alloc o).cell? ⟨g2.W.heap.size, 4, none⟩ = some (.slice (some ⟨gg.W.heap.size + 1 + 1, 0, none⟩) 1 1) := fun g o => (blk_cell (blk_alloc (Q3 g) _) 4).trans rfl
  have y4 : ∀ (g : G (gw0 g3)) (o : Obj), (g.W.alloc o).frozen? ⟨g2.W.heap.size, 4, none⟩ = false := fun g o => blk_frozen (blk_alloc (Q3 g) _) 4
  have QA := Aside0.mk Q3
  clear Q3
  have G3 := Aside0.mk (show ∀ g : G (gw0 g3), Below (gw0 g2).heap.size (gw0 g2) g.W from fun g => (g2.below.alloc g2.below.size _).trans (g.below.mono (Nat.le_trans g2.below.size (by simp [gw0]))))
  go_upto_region 7 with (go_at_call 34; refine (call_of (g := g3) (name_calls _ g3.W)).mono ?_; rintro _ _ ⟨rfl, g3, rfl⟩)
  clear z4 y4
  refine wp_grown0 ?_
  intro g4
  have l3 : g2.W.heap.size < g3.W.heap.size := blk_lt (QA.out g3)
  have KQ := Aside0.mk (show (gw0 g4).heap[g2.W.heap.size]? = some (.cells #[.string ⟨#[112]⟩, .int .i64 32, .int .i64 1, .slice (some ⟨w.heap.size + 1, 0, none⟩) 1 1, .slice (some ⟨g3.W.heap.size, 0, none⟩) 1 1] 29 (0, 0)) from blk_put (blk_alloc (QA.out g3) _) 4 _ rfl)
  have KR := Aside0.mk (show (gw0 g4).heap[g3.W.heap.size]? = some (.cells #[.int .i64 1, .string ⟨#[120]⟩, .int .i64 0, .int .u64 0, .string ⟨#[]⟩, .slice none 0 0, .int .i64 2, .int .u64 0, .string ⟨#[121]⟩, .slice none 0 0, .int .u64 0, .int .u64 0, .slice none 0 0, .slice none 0 0] 77 (0, 0)) from (Below.heap_setCell _ _ _ _ (by simp; omega)).trans (blk_new g3.W _))
  have GX := Aside0.mk (show ∀ g : G (gw0 g4), Below (gw0 g2).heap.size (gw0 g2) g.W from fun g => (((G3.out g3).alloc (G3.out g3).size _).setCell (p := ⟨g2.W.heap.size, 4, none⟩) g2.below.size _).trans (g.below.mono (Nat.le_trans (G3.out g3).size (by simp [gw0]))))
  have KD2 := Aside0.mk (show (gw0 g4).heap[w.heap.size + 1]? = some (.cells #[.int .i64 5, .string ⟨#[120]⟩, .int .i64 0, .slice none 0 0] 44 (0, 0)) from blk_below KD.out (GX.out (mkG (Below.refl _ _))))
  have PQ := Aside0.mk (live_atQ KD2.out KR.out)
  have v0 : ∀ g : G (gw0 g4), g.W.cell? ⟨g2.W.heap.size, 0, none⟩ = some (.string ⟨#[112]⟩) := fun g => (blk_cell (blk_below KQ.out g.below) 0).trans rfl
  have v1 : ∀ g : G (gw0 g4), g.W.cell? ⟨g2.W.heap.size, 1, none⟩ = some (.int .i64 32) := fun g => (blk_cell (blk_below KQ.out g.below) 1).trans rfl
  have v2 : ∀ g : G (gw0 g4), g.W.cell? ⟨g2.W.heap.size, 2, none⟩ = some (.int .i64 1) := fun g => (blk_cell (blk_below KQ.out g.below) 2).trans rfl
  have v3 : ∀ g : G (gw0 g4), g.W.cell? ⟨g2.W.heap.size, 3, none⟩ = some (.slice (some ⟨w.heap.size + 1, 0, none⟩) 1 1) := fun g => (blk_cell (blk_below KQ.out g.below) 3).trans rfl
  have v4 : ∀ g : G (gw0 g4), g.W.cell? ⟨g2.W.heap.size, 4, none⟩ = some (.slice (some ⟨g3.W.heap.size, 0, none⟩) 1 1) := fun g => (blk_cell (blk_below KQ.out g.below) 4).trans rfl
  clear x0 x1 x2 x3 x4
  have KP4 := Aside0.mk (fun g => blk_below KP.out (GX.out g))
  have x0 : ∀ g : G (gw0 g4), g.W.cell? ⟨w.heap.size + 1 + 1, 0, none⟩ = some (.string ⟨#[112]⟩) := fun g => (blk_cell (KP4.out g) 0).trans rfl
  have x1 : ∀ g : G (gw0 g4), g.W.cell? ⟨w.heap.size + 1 + 1, 1, none⟩ = some (.int .i64 32) := fun g => (blk_cell (KP4.out g) 1).trans rfl
  have x2 : ∀ g : G (gw0 g4), g.W.cell? ⟨w.heap.size + 1 + 1, 2, none⟩ = some (.int .i64 1) := fun g => (blk_cell (KP4.out g) 2).trans rfl
  have x3 : ∀ g : G (gw0 g4), g.W.cell? ⟨w.heap.size + 1 + 1, 3, none⟩ = some (.slice (some ⟨w.heap.size + 1, 0, none⟩) 1 1) := fun g => (blk_cell (KP4.out g) 3).trans rfl
  have x4 : ∀ g : G (gw0 g4), g.W.cell? ⟨w.heap.size + 1 + 1, 4, none⟩ = some (.slice (some ⟨gg.W.heap.size + 1 + 1, 0, none⟩) 1 1) := fun g => (blk_cell (KP4.out g) 4).trans rfl
  clear l3
  go_wp2_with fail
  refine (call_of (g := g4) (fault_calls ⟨#[112]⟩ 32 1 liveD liveQ _ _ _ _ g4.W (PQ.out.below g4.below) live_goodQ ⟨11, 2, 161⟩ live_faultQ.symm)).mono ?_
  rintro _ _ ⟨rfl, g4, rfl⟩
  go_wp2_with fail
  refine (call_of (g := g4) (check_calls ⟨#[112]⟩ 32 1 liveD liveB _ _ _ _ g4.W (PA.out.below (GX.out g4)) live_good ⟨0, 0, 0⟩ live_fault.symm)).mono ?_
  rintro _ _ ⟨rfl, g4, rfl⟩
  go_wp2_with fail
  refine (call_of (g := g4) (no_calls _ g4.W)).mono ?_
  rintro _ _ ⟨rfl, g4, rfl⟩
  go_wp2_with fail
  refine (call_of (g := g4) (no_calls _ g4.W)).mono ?_
  rintro _ _ ⟨rfl, g4, rfl⟩
  go_wp2_with fail
  refine (call_of (g := g4) (no_calls _ g4.W)).mono ?_
  rintro _ _ ⟨rfl, g4, rfl⟩
  go_wp2_with fail
  go_ret
  exact ⟨rfl, goutX (mkG (GX.out g4))⟩
end Go.Proofs.Ytfcahachdpjfoaa.L
end
section
namespace Go.Proofs.Ytfcahachdpjfoaa.L
open Go.RowKit
set_option linter.unusedVariables false
set_option linter.unusedSimpArgs false
structure SameD (d d' : S44) : Prop where
  nm : d'.f1 = d.f1
  sz : d'.f2 = d.f2
  vs : d'.f3 = d.f3
  k3 : (d'.f0 = 3) ↔ (d.f0 = 3)
  ok : 1 ≤ d.f0 → d.f0 ≤ 5 → 1 ≤ d'.f0 ∧ d'.f0 ≤ 5
theorem SameD.refl (d : S44) : SameD d d := ⟨rfl, rfl, rfl, Iff.rfl, fun h1 h2 => ⟨h1, h2⟩⟩
structure SameDs (ds ds' : List S44) : Prop where
  len : ds'.length = ds.length
  rd : ∀ i : Nat, i < ds.length → SameD (rd_T44 ds (i : Int)) (rd_T44 ds' (i : Int))
theorem SameDs.all {ds ds' : List S44} (h : SameDs ds ds') (i : Nat) : SameD (rd_T44 ds (i : Int)) (rd_T44 ds' (i : Int)) := by
  rcases Nat.lt_or_ge i ds.length with hi | hi
  · exact h.rd i hi
  · have e : rd_T44 ds' (i : Int) = rd_T44 ds (i : Int) := by
      unfold rd_T44
      rw [Int.toNat_natCast, List.getD_eq_getElem?_getD, List.getD_eq_getElem?_getD, List.getElem?_eq_none hi, List.getElem?_eq_none (by rw [h.len]; exact hi)]
    rw [e]
    exact SameD.refl _
theorem SameDs.find {ds ds' : List S44} (h : SameDs ds ds') (s : ByteArray) : findB ds' s = findB ds s := by
  unfold findB
  rw [h.len]
  exact firstN_congr fun j hj => by rw [(h.all j).nm]
theorem SameD.bne {d d' : S44} (h : SameD d d') : (d'.f0 != 3) = (d.f0 != 3) := by
  by_cases c : d.f0 = 3
  · rw [h.k3.2 c, c]
  · exact (bn (fun x => c (h.k3.1 x))).trans (bn c).symm
theorem SameD.beq {d d' : S44} (h : SameD d d') : (d'.f0 == 3) = (d.f0 == 3) := by
  by_cases c : d.f0 = 3
  · rw [h.k3.2 c, c]
  · exact (bf (fun x => c (h.k3.1 x))).trans (bf c).symm
theorem SameD.dc {d d' : S44} (h : SameD d d') (hd : dcB d = true) : dcB d' = true := by
  unfold dcB at hd ⊢
  simp only [Bool.and_eq_true, decide_eq_true_eq] at hd
  obtain ⟨⟨⟨⟨h1, h2⟩, h3⟩, h4⟩, h5⟩ := hd
  obtain ⟨g1, g2⟩ := h.ok h1 h2
  rw [decide_eq_true g1, decide_eq_true g2, h.nm, h3, h.sz, decide_eq_true h4, h.vs]
  by_cases c : d.f0 = 3
  · rw [if_pos c] at h5
    rw [if_pos (h.k3.2 c), h5]; rfl
  · rw [if_neg c] at h5
    rw [if_neg (fun x => c (h.k3.1 x)), h5]; rfl
theorem SameD.kind {d d' : S44} (h : SameD d d') (t : Th) : kindD d' t = kindD d t := by
  cases t <;> simp only [kindD, h.sz, h.bne]
theorem rd44_all {p : S44 → Bool} {l : List S44} (h : ∀ i : Nat, i < l.length → p (rd_T44 l (i : Int)) = true) : l.all p = true := by
  rw [List.all_eq_true]
  intro y hy
  obtain ⟨j, hj, rfl⟩ := List.getElem_of_mem hy
  have := h j hj
  unfold rd_T44 at this
  rwa [Int.toNat_natCast, List.getD_eq_getElem?_getD, List.getElem?_eq_getElem hj] at this
theorem SameDs.form {ds ds' : List S44} (h : SameDs ds ds') (ha : ds.all dcB = true) : ds'.all dcB = true :=
  rd44_all fun i hi => (h.all i).dc (List.all_eq_true.1 ha _ (rd44_mem (by rw [← h.len]; exact hi)))
theorem SameDs.things {ds ds' : List S44} (h : SameDs ds ds') (bd : List S77) : L.things ds' bd = L.things ds bd := by
  unfold L.things; rw [h.len]
theorem SameDs.bad {ds ds' : List S44} (h : SameDs ds ds') (wd : Int) (c : Nat) : badC wd ds' c = badC wd ds c := by
  have e11 : bad11 ds' = bad11 ds := by
    funext t
    unfold bad11
    cases useB t with
    | none => rfl
    | some s => simp only [h.find]
  have e12 : bad12 ds' = bad12 ds := by
    funext t
    unfold bad12
    cases useB t with
    | none => rfl
    | some s => simp only [kindB, h.find, (h.all _).kind]
  have e15 : bad15 ds' = bad15 ds := by
    funext t
    cases t with
    | decl i => rfl
    | stmt s d l => simp only [bad15, h.find]
    | expr e l => rfl
  unfold badC
  rw [e11, e12, e15]
theorem SameDs.cR {nm : ByteArray} {wd ln : Int} {ds ds' : List S44} {bd : List S77} (h : SameDs ds ds') {k : Nat} (hk : k < 16) (h8 : k ≠ 8) (hc : (L.cR nm wd ln ds bd k).2 = false) : (L.cR nm wd ln ds' bd k).2 = false := by
  have hcs : k = 0 ∨ k = 1 ∨ k = 2 ∨ k = 3 ∨ k = 4 ∨ k = 5 ∨ k = 6 ∨ k = 7 ∨ k = 9 ∨ k = 10 ∨ k = 11 ∨ k = 12 ∨ k = 13 ∨ k = 14 ∨ k = 15 := by omega
  have fd : ∀ f g : Nat → Bool, (∀ i, i < ds.length → g i = f i) → (firstD f ds.length).2 = false → (firstD g ds'.length).2 = false := by
    intro f g e hf
    unfold firstD at hf ⊢
    rw [h.len, firstN_congr e]
    exact hf
  have fs : ∀ c, (firstS (badC wd ds c) (L.things ds bd)).2 = false → (firstS (badC wd ds' c) (L.things ds' bd)).2 = false := by
    intro c hf
    rw [h.things, h.bad]
    exact hf
  rcases hcs with rfl | rfl | rfl | rfl | rfl | rfl | rfl | rfl | rfl | rfl | rfl | rfl | rfl | rfl | rfl
  · simp only [L.cR] at hc ⊢
    have hf := b_no hc
    unfold formB at hf ⊢
    simp only [Bool.and_eq_true] at hf
    obtain ⟨⟨⟨a1, a2⟩, a3⟩, a4, a5⟩ := hf
    rw [a1, a2, a3, h.form a4, a5]; rfl
  · exact hc
  · exact hc
  · simp only [L.cR] at hc ⊢
    rw [h.len]
    exact hc
  · refine fd (twiceB ds) (twiceB ds') (fun i hi => ?_) hc
    unfold twiceB
    rw [firstN_congr (f := fun j : Nat => eqS (rd_T44 ds' (j : Int)).f1 (rd_T44 ds' (i : Int)).f1) (g := fun j : Nat => eqS (rd_T44 ds (j : Int)).f1 (rd_T44 ds (i : Int)).f1) fun j hj => by rw [(h.all j).nm, (h.all i).nm]]
  · exact fd (sizeBad ds) (sizeBad ds') (fun i hi => by unfold sizeBad; rw [(h.all i).sz]) hc
  · exact fd (valuesBad ds) (valuesBad ds') (fun i hi => by unfold valuesBad; rw [(h.all i).sz, (h.all i).vs, (h.all i).beq]) hc
  · exact fd (rangeBad wd ds) (rangeBad wd ds') (fun i hi => by unfold rangeBad; rw [(h.all i).vs]) hc
  · exact fs 10 hc
  · exact fs 11 hc
  · exact fs 12 hc
  · exact fs 13 hc
  · exact fs 14 hc
  · exact fs 15 hc
  · exact hc
theorem right_all {nm : ByteArray} {wd ln : Int} {ds : List S44} {bd : List S77} (h : (faultS nm wd ln ds bd).e = 0) : ∀ k, k < 16 → (cR nm wd ln ds bd k).2 = false := by
  rcases firstN_cases 16 (fun k => (cR nm wd ln ds bd k).2) with ⟨_, h2⟩ | ⟨i, h0, h1, h2, h3⟩
  · exact h2
  · rw [faultS_at h0 h3 h2] at h
    exfalso
    revert h
    have hcs : i = 0 ∨ i = 1 ∨ i = 2 ∨ i = 3 ∨ i = 4 ∨ i = 5 ∨ i = 6 ∨ i = 7 ∨ i = 8 ∨ i = 9 ∨ i = 10 ∨ i = 11 ∨ i = 12 ∨ i = 13 ∨ i = 14 ∨ i = 15 := by omega
    rcases hcs with rfl | rfl | rfl | rfl | rfl | rfl | rfl | rfl | rfl | rfl | rfl | rfl | rfl | rfl | rfl | rfl <;> intro h <;> cases h
theorem kinds_law {nm : ByteArray} {wd ln : Int} {ds ds' : List S44} {bd : List S77} (hS : SameDs ds ds') (h : (faultS nm wd ln ds bd).e = 0) :
    faultS nm wd ln ds' bd = if 4096 < wordsS ds' then ⟨9, -1, 169⟩ else ⟨0, 0, 0⟩ := by
  have hr := right_all h
  by_cases hw : 4096 < wordsS ds'
  · rw [if_pos hw, faultS_at (k := 8) (by decide) (fun j hj => hS.cR (by omega) (by omega) (hr j (by omega))) (by show (!decide (wordsS ds' ≤ 4096)) = true; rw [decide_eq_false (by omega)]; rfl)]
    rfl
  · rw [if_neg hw]
    refine faultS_none fun j hj => ?_
    by_cases h8 : j = 8
    · subst h8
      show (!decide (wordsS ds' ≤ 4096)) = false
      rw [decide_eq_true (by omega)]; rfl
    · exact hS.cR hj h8 (hr j hj)
end Go.Proofs.Ytfcahachdpjfoaa.L
end
section
namespace Go.Proofs.Ytfcahachdpjfoaa.L
open Go.RowKit
set_option linter.unusedVariables false
set_option linter.unusedSimpArgs false
theorem toList_inj {a b : ByteArray} (h : a.toList = b.toList) : a = b := by
  rw [Lib.toList_data, Lib.toList_data] at h
  cases a; cases b
  simp only at h
  rw [Array.toList_inj.1 h]
theorem eqS_iff {a b : ByteArray} : eqS a b = true ↔ a = b := by
  unfold eqS
  rw [decide_eq_true_eq]
  exact ⟨toList_inj, fun h => h ▸ rfl⟩
theorem eqS_congr {a b c d : ByteArray} (h : a = b ↔ c = d) : eqS a b = eqS c d := by
  rw [Bool.eq_iff_iff, eqS_iff, eqS_iff]; exact h
section
variable (fr tw : ByteArray)
def rn (s : ByteArray) : ByteArray := if eqS s fr = true then tw else s
mutual
def rnE : S75 → S75
  | ⟨a, b, s, l⟩ => ⟨a, b, rn fr tw s, rnEs l⟩
def rnEs : List S75 → List S75
  | [] => []
  | x :: r => rnE x :: rnEs r
end
mutual
def rnT : S77 → S77
  | ⟨k, s, e, f, lo, hi, th, el⟩ => ⟨k, rn fr tw s, rnE fr tw e, rnE fr tw f, lo, hi, rnTs th, rnTs el⟩
def rnTs : List S77 → List S77
  | [] => []
  | x :: r => rnT x :: rnTs r
end
def rnTh : Th → Th
  | .decl i => .decl i
  | .stmt s d l => .stmt (rnT fr tw s) d (l.map (rn fr tw))
  | .expr e l => .expr (rnE fr tw e) (l.map (rn fr tw))
end
section
variable (tw : ByteArray)
mutual
def usedE : S75 → Bool
  | ⟨a, b, s, l⟩ => eqS s tw || usedEs l
def usedEs : List S75 → Bool
  | [] => false
  | x :: r => usedE x || usedEs r
end
mutual
def standT : S77 → Bool
  | ⟨k, s, e, f, lo, hi, th, el⟩ => eqS s tw || usedE tw e || usedE tw f || standTs th || standTs el
def standTs : List S77 → Bool
  | [] => false
  | x :: r => standT x || standTs r
end
end
def NTh (tw : ByteArray) : Th → Prop
  | .decl _ => True
  | .stmt s _ l => s.f1 ≠ tw ∧ ∀ x ∈ l, x ≠ tw
  | .expr e l => e.f2 ≠ tw ∧ ∀ x ∈ l, x ≠ tw
section
variable {fr tw : ByteArray}
theorem rn_fr : rn fr tw fr = tw := by unfold rn; rw [if_pos (eqS_iff.2 rfl)]
theorem rn_ne {s : ByteArray} (h : s ≠ fr) : rn fr tw s = s := by unfold rn; rw [if_neg (fun x => h (eqS_iff.1 x))]
theorem rn_cases (s : ByteArray) : (s = fr ∧ rn fr tw s = tw) ∨ (s ≠ fr ∧ rn fr tw s = s) := by
  by_cases h : s = fr
  · exact .inl ⟨h, h ▸ rn_fr⟩
  · exact .inr ⟨h, rn_ne h⟩
theorem rn_inj {s t : ByteArray} (hs : s ≠ tw) (ht : t ≠ tw) : rn fr tw s = rn fr tw t ↔ s = t := by
  refine ⟨fun h => ?_, fun h => h ▸ rfl⟩
  rcases rn_cases (fr := fr) (tw := tw) s with ⟨h1, h2⟩ | ⟨h1, h2⟩ <;> rcases rn_cases (fr := fr) (tw := tw) t with ⟨h3, h4⟩ | ⟨h3, h4⟩
  · rw [h1, h3]
  · rw [h2, h4] at h; exact absurd h.symm ht
  · rw [h2, h4] at h; exact absurd h hs
  · rwa [h2, h4] at h
theorem named_ne {s : ByteArray} (h : namedB s = true) : s.toList.isEmpty = false := by
  cases e : s.toList.isEmpty with
  | false => rfl
  | true =>
    rw [named_empty (List.isEmpty_iff.1 e)] at h
    cases h
theorem rn_named (hf : namedB fr = true) (ht : namedB tw = true) (s : ByteArray) : namedB (rn fr tw s) = namedB s := by
  rcases rn_cases (fr := fr) (tw := tw) s with ⟨h1, h2⟩ | ⟨h1, h2⟩
  · rw [h2, h1, hf, ht]
  · rw [h2]
theorem rn_empty (hf : namedB fr = true) (ht : namedB tw = true) (s : ByteArray) : (rn fr tw s).toList.isEmpty = s.toList.isEmpty := by
  rcases rn_cases (fr := fr) (tw := tw) s with ⟨h1, h2⟩ | ⟨h1, h2⟩
  · rw [h2, h1, named_ne hf, named_ne ht]
  · rw [h2]
theorem rnEs_len : ∀ l : List S75, (rnEs fr tw l).length = l.length
  | [] => by rw [rnEs]
  | x :: r => by rw [rnEs, List.length_cons, List.length_cons, rnEs_len r]
theorem rnTs_len : ∀ l : List S77, (rnTs fr tw l).length = l.length
  | [] => by rw [rnTs]
  | x :: r => by rw [rnTs, List.length_cons, List.length_cons, rnTs_len r]
theorem rnTs_empty (l : List S77) : (rnTs fr tw l).isEmpty = l.isEmpty := by
  cases l with
  | nil => rw [rnTs]
  | cons x r => rw [rnTs]; rfl
theorem rnE_eq (x : S75) : rnE fr tw x = ⟨x.f0, x.f1, rn fr tw x.f2, rnEs fr tw x.f3⟩ := by obtain ⟨a, b, s, l⟩ := x; rw [rnE]
theorem rnT_eq (x : S77) : rnT fr tw x = ⟨x.f0, rn fr tw x.f1, rnE fr tw x.f2, rnE fr tw x.f3, x.f4, x.f5, rnTs fr tw x.f6, rnTs fr tw x.f7⟩ := by obtain ⟨a, b, s, l, c, d, e, f⟩ := x; rw [rnT]
theorem exOwn_rn (hf : namedB fr = true) (ht : namedB tw = true) (x : S75) : exOwn (rnE fr tw x) = exOwn x := by
  rw [rnE_eq]
  unfold exOwn
  simp only [rnEs_len, rn_empty hf ht, rn_named hf ht]
mutual
theorem exB_rn (hf : namedB fr = true) (ht : namedB tw = true) : ∀ x : S75, exB (rnE fr tw x) = exB x
  | ⟨a, b, s, l⟩ => by
    have h := exOwn_rn hf ht ⟨a, b, s, l⟩
    rw [rnE] at h ⊢
    rw [exB, exB, h, exL_rn hf ht l]
theorem exL_rn (hf : namedB fr = true) (ht : namedB tw = true) : ∀ l : List S75, exL (rnEs fr tw l) = exL l
  | [] => by rw [rnEs]
  | x :: r => by rw [rnEs, exL, exL, exB_rn hf ht x, exL_rn hf ht r]
end
theorem noneB_rn (hf : namedB fr = true) (ht : namedB tw = true) (x : S75) : noneB (rnE fr tw x) = noneB x := by
  rw [rnE_eq]
  unfold noneB
  simp only [rnEs_len, rn_empty hf ht]
theorem stOwn_rn (hf : namedB fr = true) (ht : namedB tw = true) (x : S77) : stOwn (rnT fr tw x) = stOwn x := by
  rw [rnT_eq]
  unfold stOwn
  simp only [rnTs_empty, rn_empty hf ht, rn_named hf ht, exB_rn hf ht, noneB_rn hf ht]
mutual
theorem stB_rn (hf : namedB fr = true) (ht : namedB tw = true) : ∀ x : S77, stB (rnT fr tw x) = stB x
  | ⟨k, s, e, f, lo, hi, th, el⟩ => by
    have h := stOwn_rn hf ht ⟨k, s, e, f, lo, hi, th, el⟩
    rw [rnT] at h ⊢
    rw [stB, stB, h, bdB_rn hf ht th, bdB_rn hf ht el]
theorem bdB_rn (hf : namedB fr = true) (ht : namedB tw = true) : ∀ l : List S77, bdB (rnTs fr tw l) = bdB l
  | [] => by rw [rnTs]
  | x :: r => by rw [rnTs, bdB, bdB, stB_rn hf ht x, bdB_rn hf ht r]
end
mutual
theorem weightE_rn : ∀ x : S75, weightE (rnE fr tw x) = weightE x
  | ⟨a, b, s, l⟩ => by rw [rnE, weightE, weightE, weightL_rn l]
theorem weightL_rn : ∀ l : List S75, weightL (rnEs fr tw l) = weightL l
  | [] => by rw [rnEs]
  | x :: r => by rw [rnEs, weightL, weightL, weightE_rn x, weightL_rn r]
end
mutual
theorem deepE_rn : ∀ x : S75, deepE (rnE fr tw x) = deepE x
  | ⟨a, b, s, l⟩ => by rw [rnE, deepE, deepE, deepL_rn l]
theorem deepL_rn : ∀ l : List S75, deepL (rnEs fr tw l) = deepL l
  | [] => by rw [rnEs]
  | x :: r => by rw [rnEs, deepL, deepL, deepE_rn x, deepL_rn r]
end
mutual
theorem sizeT_rn : ∀ x : S77, sizeT (rnT fr tw x) = sizeT x
  | ⟨k, s, e, f, lo, hi, th, el⟩ => by
    rw [rnT, sizeT_eq, sizeT_eq]
    simp only [weightE_rn]
    rw [sizeB_rn th, sizeB_rn el]
theorem sizeB_rn : ∀ l : List S77, sizeB (rnTs fr tw l) = sizeB l
  | [] => by rw [rnTs]
  | x :: r => by rw [rnTs, sizeB, sizeB, sizeT_rn x, sizeB_rn r]
end
mutual
theorem exTh_rn : ∀ (x : S75) (lo : List ByteArray), exTh (rnE fr tw x) (lo.map (rn fr tw)) = (exTh x lo).map (rnTh fr tw)
  | ⟨a, b, s, l⟩, lo => by
    have h : rnE fr tw ⟨a, b, s, l⟩ = ⟨a, b, rn fr tw s, rnEs fr tw l⟩ := by rw [rnE]
    rw [exTh_eq, exTh, List.map_cons, rnTh, h, exThs_rn l lo]
theorem exThs_rn : ∀ (l : List S75) (lo : List ByteArray), exThs (rnEs fr tw l) (lo.map (rn fr tw)) = (exThs l lo).map (rnTh fr tw)
  | [], lo => by rw [rnEs, exThs, exThs, List.map_nil]
  | x :: r, lo => by rw [rnEs, exThs, exThs, List.map_append, exTh_rn x lo, exThs_rn r lo]
end
theorem inLoop_rn (k : Int) (s : ByteArray) (lo : List ByteArray) : inLoop k (rn fr tw s) (lo.map (rn fr tw)) = (inLoop k s lo).map (rn fr tw) := by
  unfold inLoop
  split <;> simp
mutual
theorem stTh_rn : ∀ (x : S77) (d : Nat) (lo : List ByteArray), stTh (rnT fr tw x) d (lo.map (rn fr tw)) = (stTh x d lo).map (rnTh fr tw)
  | ⟨k, s, e, f, l, h, th, el⟩, d, lo => by
    have hh : rnT fr tw ⟨k, s, e, f, l, h, th, el⟩ = ⟨k, rn fr tw s, rnE fr tw e, rnE fr tw f, l, h, rnTs fr tw th, rnTs fr tw el⟩ := by rw [rnT]
    rw [stTh_eq, stTh, List.map_cons, rnTh, hh, List.map_append, List.map_append, List.map_append]
    simp only [inLoop_rn]
    rw [stThs_rn th, stThs_rn el]
    congr 1
    congr 1
    congr 1
    · split
      · exact exTh_rn e lo
      · rfl
    · split
      · exact exTh_rn f lo
      · rfl
theorem stThs_rn : ∀ (l : List S77) (d : Nat) (lo : List ByteArray), stThs (rnTs fr tw l) d (lo.map (rn fr tw)) = (stThs l d lo).map (rnTh fr tw)
  | [], d, lo => by rw [rnTs, stThs, stThs, List.map_nil]
  | x :: r, d, lo => by rw [rnTs, stThs, stThs, List.map_append, stTh_rn x d lo, stThs_rn r d lo]
end
theorem ne_of_eqS {a b : ByteArray} (h : eqS a b = false) : a ≠ b := fun e => by rw [eqS_iff.2 e] at h; cases h
mutual
theorem ntE : ∀ (x : S75) (lo : List ByteArray), usedE tw x = false → (∀ y ∈ lo, y ≠ tw) → ∀ t ∈ exTh x lo, NTh tw t
  | ⟨a, b, s, l⟩, lo, h, hl, t, ht => by
    rw [usedE, Bool.or_eq_false_iff] at h
    rw [exTh] at ht
    rcases List.mem_cons.1 ht with rfl | ht
    · exact ⟨ne_of_eqS h.1, hl⟩
    · exact ntEs l lo h.2 hl t ht
theorem ntEs : ∀ (l : List S75) (lo : List ByteArray), usedEs tw l = false → (∀ y ∈ lo, y ≠ tw) → ∀ t ∈ exThs l lo, NTh tw t
  | [], lo, h, hl, t, ht => by rw [exThs] at ht; cases ht
  | x :: r, lo, h, hl, t, ht => by
    rw [usedEs, Bool.or_eq_false_iff] at h
    rw [exThs] at ht
    rcases List.mem_append.1 ht with ht | ht
    · exact ntE x lo h.1 hl t ht
    · exact ntEs r lo h.2 hl t ht
end
mutual
theorem ntT : ∀ (x : S77) (d : Nat) (lo : List ByteArray), standT tw x = false → (∀ y ∈ lo, y ≠ tw) → ∀ t ∈ stTh x d lo, NTh tw t
  | ⟨k, s, e, f, l, hh, th, el⟩, d, lo, h, hl, t, ht => by
    rw [standT, Bool.or_eq_false_iff, Bool.or_eq_false_iff, Bool.or_eq_false_iff, Bool.or_eq_false_iff] at h
    obtain ⟨⟨⟨⟨h1, h2⟩, h3⟩, h4⟩, h5⟩ := h
    have hin : ∀ y ∈ inLoop k s lo, y ≠ tw := by
      unfold inLoop
      split
      · intro y hy
        rcases List.mem_append.1 hy with hy | hy
        · exact hl y hy
        · rw [List.mem_singleton.1 hy]; exact ne_of_eqS h1
      · exact hl
    rw [stTh] at ht
    rcases List.mem_cons.1 ht with rfl | ht
    · exact ⟨ne_of_eqS h1, hl⟩
    · rcases List.mem_append.1 ht with ht | ht
      · rcases List.mem_append.1 ht with ht | ht
        · split at ht
          · exact ntE e lo h2 hl t ht
          · cases ht
        · split at ht
          · exact ntE f lo h3 hl t ht
          · cases ht
      · rcases List.mem_append.1 ht with ht | ht
        · exact ntTs th _ _ h4 hin t ht
        · exact ntTs el _ _ h5 hin t ht
theorem ntTs : ∀ (l : List S77) (d : Nat) (lo : List ByteArray), standTs tw l = false → (∀ y ∈ lo, y ≠ tw) → ∀ t ∈ stThs l d lo, NTh tw t
  | [], d, lo, h, hl, t, ht => by rw [stThs] at ht; cases ht
  | x :: r, d, lo, h, hl, t, ht => by
    rw [standTs, Bool.or_eq_false_iff] at h
    rw [stThs] at ht
    rcases List.mem_append.1 ht with ht | ht
    · exact ntT x d lo h.1 hl t ht
    · exact ntTs r d lo h.2 hl t ht
end
theorem hasS_rn {l : List ByteArray} {s : ByteArray} (hl : ∀ x ∈ l, x ≠ tw) (hs : s ≠ tw) : hasS (l.map (rn fr tw)) (rn fr tw s) = hasS l s := by
  induction l with
  | nil => rfl
  | cons x r ih =>
    unfold hasS at ih ⊢
    rw [List.map_cons, List.any_cons, List.any_cons, ih fun y hy => hl y (List.mem_cons_of_mem _ hy), eqS_congr (rn_inj (fr := fr) (hl x (List.mem_cons_self ..)) hs)]
theorem loopsOf_rn (t : Th) : loopsOf (rnTh fr tw t) = (loopsOf t).map (rn fr tw) := by cases t <;> simp [loopsOf, rnTh]
theorem useB_rn (t : Th) : useB (rnTh fr tw t) = (useB t).map (rn fr tw) := by
  cases t with
  | decl i => rfl
  | stmt s d l => simp only [useB, rnTh, rnT_eq]; split <;> rfl
  | expr e l => simp only [useB, rnTh, rnE_eq]; split <;> rfl
theorem use_nt {t : Th} {s : ByteArray} (h : NTh tw t) (hu : useB t = some s) : s ≠ tw ∧ ∀ x ∈ loopsOf t, x ≠ tw := by
  cases t with
  | decl i => cases hu
  | stmt x d l => simp only [useB] at hu; split at hu
                  · injection hu with hu; subst hu; exact h
                  · cases hu
  | expr e l => simp only [useB] at hu; split at hu
                · injection hu with hu; subst hu; exact h
                · cases hu
end
def rnDs (tw : ByteArray) (k : Nat) (ds : List S44) : List S44 := ds.set k ⟨(rd_T44 ds (k : Int)).f0, tw, (rd_T44 ds (k : Int)).f2, (rd_T44 ds (k : Int)).f3⟩
section
variable {tw : ByteArray} {k : Nat} {ds : List S44}
theorem rnDs_len : (rnDs tw k ds).length = ds.length := by unfold rnDs; rw [List.length_set]
theorem rnDs_at (hk : k < ds.length) : rd_T44 (rnDs tw k ds) (k : Int) = ⟨(rd_T44 ds (k : Int)).f0, tw, (rd_T44 ds (k : Int)).f2, (rd_T44 ds (k : Int)).f3⟩ := by
  unfold rnDs
  generalize (⟨(rd_T44 ds (k : Int)).f0, tw, (rd_T44 ds (k : Int)).f2, (rd_T44 ds (k : Int)).f3⟩ : S44) = d
  unfold rd_T44
  rw [Int.toNat_natCast, List.getD_eq_getElem?_getD, List.getElem?_set_self hk]; rfl
theorem rnDs_ne {i : Nat} (h : i ≠ k) : rd_T44 (rnDs tw k ds) (i : Int) = rd_T44 ds (i : Int) := by
  unfold rnDs
  generalize (⟨(rd_T44 ds (k : Int)).f0, tw, (rd_T44 ds (k : Int)).f2, (rd_T44 ds (k : Int)).f3⟩ : S44) = d
  unfold rd_T44
  rw [Int.toNat_natCast, List.getD_eq_getElem?_getD, List.getD_eq_getElem?_getD, List.getElem?_set_ne (by omega)]
theorem rnDs_f (hk : k < ds.length) (i : Nat) : (rd_T44 (rnDs tw k ds) (i : Int)).f0 = (rd_T44 ds (i : Int)).f0 ∧ (rd_T44 (rnDs tw k ds) (i : Int)).f2 = (rd_T44 ds (i : Int)).f2 ∧ (rd_T44 (rnDs tw k ds) (i : Int)).f3 = (rd_T44 ds (i : Int)).f3 := by
  by_cases h : i = k
  · subst h; rw [rnDs_at hk]; exact ⟨rfl, rfl, rfl⟩
  · rw [rnDs_ne h]; exact ⟨rfl, rfl, rfl⟩
theorem findB_none {s : ByteArray} (h : findB ds s = none) : ∀ i : Nat, i < ds.length → (rd_T44 ds (i : Int)).f1 ≠ s := fun i hi => ne_of_eqS (firstN_all h i hi)
theorem twice_no (h : ∀ i, i < ds.length → twiceB ds i = false) {i j : Nat} (hi : i < ds.length) (hj : j < ds.length) (hij : i ≠ j) : (rd_T44 ds (i : Int)).f1 ≠ (rd_T44 ds (j : Int)).f1 := by
  have key : ∀ a b : Nat, b < ds.length → a < b → (rd_T44 ds (a : Int)).f1 ≠ (rd_T44 ds (b : Int)).f1 := by
    intro a b hb hab
    have := h b hb
    unfold twiceB at this
    have h2 : firstN b (fun j : Nat => eqS (rd_T44 ds (j : Int)).f1 (rd_T44 ds (b : Int)).f1) = none := by
      cases e : firstN b (fun j : Nat => eqS (rd_T44 ds (j : Int)).f1 (rd_T44 ds (b : Int)).f1) with
      | none => rfl
      | some z => rw [e] at this; cases this
    exact ne_of_eqS (firstN_all h2 a hab)
  rcases Nat.lt_or_ge i j with g | g
  · exact key i j hj g
  · exact (key j i hi (by omega)).symm
theorem twice_of (h : ∀ i j : Nat, i < ds.length → j < ds.length → i ≠ j → (rd_T44 ds (i : Int)).f1 ≠ (rd_T44 ds (j : Int)).f1) : ∀ i, i < ds.length → twiceB ds i = false := by
  intro i hi
  unfold twiceB
  rw [firstN_none fun j hj => by
    cases e : eqS (rd_T44 ds (j : Int)).f1 (rd_T44 ds (i : Int)).f1 with
    | false => rfl
    | true => exact absurd (eqS_iff.1 e) (h j i (by omega) hi (by omega))]
  rfl
theorem rnDs_name (hk : k < ds.length) (h2 : ∀ i, i < ds.length → twiceB ds i = false) (hn : findB ds tw = none) {i : Nat} (hi : i < ds.length) {s : ByteArray} (hs : s ≠ tw) :
    (rd_T44 (rnDs tw k ds) (i : Int)).f1 = rn (rd_T44 ds (k : Int)).f1 tw s ↔ (rd_T44 ds (i : Int)).f1 = s := by
  rcases rn_cases (fr := (rd_T44 ds (k : Int)).f1) (tw := tw) s with ⟨h3, h4⟩ | ⟨h3, h4⟩
  · rw [h4]
    by_cases e : i = k
    · subst e; rw [rnDs_at hk]; exact ⟨fun _ => h3.symm, fun _ => rfl⟩
    · rw [rnDs_ne e, h3]
      exact ⟨fun x => absurd x (findB_none hn i hi), fun x => absurd x (twice_no h2 hi hk e)⟩
  · rw [h4]
    by_cases e : i = k
    · subst e; rw [rnDs_at hk]; exact ⟨fun x => absurd x.symm hs, fun x => absurd x.symm h3⟩
    · rw [rnDs_ne e]
theorem findB_rn (hk : k < ds.length) (h2 : ∀ i, i < ds.length → twiceB ds i = false) (hn : findB ds tw = none) {s : ByteArray} (hs : s ≠ tw) : findB (rnDs tw k ds) (rn (rd_T44 ds (k : Int)).f1 tw s) = findB ds s := by
  unfold findB
  rw [rnDs_len]
  exact firstN_congr fun j hj => eqS_congr (rnDs_name hk h2 hn hj hs)
theorem kindD_rn {fr : ByteArray} (hk : k < ds.length) (i : Nat) (t : Th) : kindD (rd_T44 (rnDs tw k ds) (i : Int)) (rnTh fr tw t) = kindD (rd_T44 ds (i : Int)) t := by
  obtain ⟨e1, e2, e3⟩ := rnDs_f (tw := tw) hk i
  cases t <;> simp only [kindD, rnTh, rnT_eq, rnE_eq, e1, e2]
theorem isName_rn {fr : ByteArray} (t : Th) : isName (rnTh fr tw t) = isName t := by cases t <;> simp only [isName, rnTh, rnE_eq]
theorem bad_rn (hk : k < ds.length) (h2 : ∀ i, i < ds.length → twiceB ds i = false) (hn : findB ds tw = none) (wd : Int) (c : Nat) (t : Th) (ht : NTh tw t) : badC wd (rnDs tw k ds) c (rnTh (rd_T44 ds (k : Int)).f1 tw t) = badC wd ds c t := by
  have e10 : bad10 (rnTh (rd_T44 ds (k : Int)).f1 tw t) = bad10 t := by cases t <;> simp only [bad10, rnTh, deepE_rn]
  have e11 : bad11 (rnDs tw k ds) (rnTh (rd_T44 ds (k : Int)).f1 tw t) = bad11 ds t := by
    unfold bad11
    rw [useB_rn]
    cases hu : useB t with
    | none => rfl
    | some s =>
      obtain ⟨u1, u2⟩ := use_nt ht hu
      simp only [Option.map_some, loopsOf_rn, hasS_rn u2 u1, findB_rn hk h2 hn u1]
  have e12 : bad12 (rnDs tw k ds) (rnTh (rd_T44 ds (k : Int)).f1 tw t) = bad12 ds t := by
    unfold bad12
    rw [useB_rn]
    cases hu : useB t with
    | none => rfl
    | some s =>
      obtain ⟨u1, u2⟩ := use_nt ht hu
      simp only [Option.map_some, kindB, loopsOf_rn, hasS_rn u2 u1, findB_rn hk h2 hn u1, kindD_rn hk, isName_rn]
  have e13 : bad13 wd (rnTh (rd_T44 ds (k : Int)).f1 tw t) = bad13 wd t := by cases t <;> simp only [bad13, rnTh, rnE_eq]
  have e14 : bad14 wd (rnTh (rd_T44 ds (k : Int)).f1 tw t) = bad14 wd t := by cases t <;> simp only [bad14, rnTh, rnT_eq]
  have e15 : bad15 (rnDs tw k ds) (rnTh (rd_T44 ds (k : Int)).f1 tw t) = bad15 ds t := by
    cases t with
    | decl i => rfl
    | stmt s d l => simp only [bad15, rnTh, rnT_eq, hasS_rn ht.2 ht.1, findB_rn hk h2 hn ht.1]
    | expr e l => rfl
  unfold badC
  split; · exact e10
  split; · exact e11
  split; · exact e12
  split; · exact e13
  split; · exact e14
  exact e15
theorem rnDs_dc (hk : k < ds.length) (ht : namedB tw = true) (h : ds.all dcB = true) : (rnDs tw k ds).all dcB = true := by
  refine rd44_all fun i hi => ?_
  rw [rnDs_len] at hi
  by_cases e : i = k
  · subst e
    have := List.all_eq_true.1 h _ (rd44_mem hi)
    rw [rnDs_at hk]
    unfold dcB at this ⊢
    simp only [Bool.and_eq_true] at this ⊢
    obtain ⟨⟨⟨⟨h1, h2⟩, h3⟩, h4⟩, h5⟩ := this
    exact ⟨⟨⟨⟨h1, h2⟩, ht⟩, h4⟩, h5⟩
  · rw [rnDs_ne e]
    exact List.all_eq_true.1 h _ (rd44_mem hi)
theorem rnDs_words (hk : k < ds.length) : wordsS (rnDs tw k ds) = wordsS ds := by
  have key : ∀ (l : List S44) (n : Nat) (d : S44), n < l.length → (∀ x, l[n]? = some x → d.f0 = x.f0 ∧ d.f2 = x.f2) → wordsS (l.set n d) = wordsS l := by
    intro l
    induction l with
    | nil => intro n d h; simp at h
    | cons y r ih =>
      intro n d hn hx
      cases n with
      | zero =>
        obtain ⟨e1, e2⟩ := hx y rfl
        have ei : isIn d = isIn y := by unfold isIn; rw [e1]
        have ew : wordsD d = wordsD y := by unfold wordsD; rw [e2]
        rw [List.set_cons_zero]
        unfold wordsS
        rw [List.filter_cons, List.filter_cons, ei]
        split
        · rw [List.map_cons, List.map_cons, ew]
        · rfl
      | succ n =>
        rw [List.set_cons_succ]
        have := ih n d (by simpa using hn) (fun x h => hx x (by simpa using h))
        unfold wordsS at this ⊢
        rw [List.filter_cons, List.filter_cons]
        split
        · rw [List.map_cons, List.map_cons, List.sum_cons, List.sum_cons, this]
        · exact this
  unfold rnDs
  refine key ds k _ hk fun x hx => ?_
  have e : rd_T44 ds (k : Int) = x := by unfold rd_T44; rw [Int.toNat_natCast, List.getD_eq_getElem?_getD, hx]; rfl
  rw [e]; exact ⟨rfl, rfl⟩
theorem thAt_map {l : List Th} {f : Th → Th} {i : Nat} (hi : i < l.length) : thAt (l.map f) i = f (thAt l i) := by
  unfold thAt
  rw [List.getD_eq_getElem?_getD, List.getD_eq_getElem?_getD, List.getElem?_map, List.getElem?_eq_getElem hi]; rfl
theorem called_law {nm : ByteArray} {wd ln : Int} {bd : List S77} (hk : k < ds.length) (ht : namedB tw = true) (hn : findB ds tw = none) (hst : standTs tw bd = false) (h : (faultS nm wd ln ds bd).e = 0) :
    faultS nm wd ln (rnDs tw k ds) (rnTs (rd_T44 ds (k : Int)).f1 tw bd) = ⟨0, 0, 0⟩ := by
  have hr := right_all h
  have hform : formB nm wd ln ds bd = true := b_no (hr 0 (by decide))
  have h4 := firstN_all (firstD_no (hr 4 (by decide)))
  have hds : ds.all dcB = true := by
    unfold formB at hform
    simp only [Bool.and_eq_true] at hform
    exact hform.2.1
  have hf : namedB (rd_T44 ds (k : Int)).f1 = true := by
    have := List.all_eq_true.1 hds _ (rd44_mem hk)
    unfold dcB at this
    simp only [Bool.and_eq_true] at this
    exact this.1.1.2
  have hth : things (rnDs tw k ds) (rnTs (rd_T44 ds (k : Int)).f1 tw bd) = (things ds bd).map (rnTh (rd_T44 ds (k : Int)).f1 tw) := by
    unfold things
    rw [rnDs_len, List.map_append, List.map_map]
    have := stThs_rn (fr := (rd_T44 ds (k : Int)).f1) (tw := tw) bd 1 []
    rw [List.map_nil] at this
    rw [this]
    rfl
  have hnt : ∀ t ∈ things ds bd, NTh tw t := by
    intro t hm
    unfold things at hm
    rcases List.mem_append.1 hm with hm | hm
    · obtain ⟨i, _, rfl⟩ := List.mem_map.1 hm
      trivial
    · exact ntTs bd 1 [] hst (fun y hy => by cases hy) t hm
  have fs : ∀ c, (firstS (badC wd ds c) (things ds bd)).2 = false → (firstS (badC wd (rnDs tw k ds) c) (things (rnDs tw k ds) (rnTs (rd_T44 ds (k : Int)).f1 tw bd))).2 = false := by
    intro c hc
    have ha := firstN_all (firstS_no hc)
    unfold firstS
    rw [hth, List.length_map, firstN_none fun j hj => by rw [thAt_map hj, bad_rn hk h4 hn wd c _ (hnt _ (by rw [thAt_lt hj]; exact List.getElem_mem _))]; exact ha j hj]
  have fd : ∀ f : Nat → Bool, (∀ j, j < ds.length → f j = false) → (firstD f (rnDs tw k ds).length).2 = false := by
    intro f hc
    unfold firstD
    rw [rnDs_len, firstN_none hc]
  refine faultS_none fun j hj => ?_
  have hcs : j = 0 ∨ j = 1 ∨ j = 2 ∨ j = 3 ∨ j = 4 ∨ j = 5 ∨ j = 6 ∨ j = 7 ∨ j = 8 ∨ j = 9 ∨ j = 10 ∨ j = 11 ∨ j = 12 ∨ j = 13 ∨ j = 14 ∨ j = 15 := by omega
  rcases hcs with rfl | rfl | rfl | rfl | rfl | rfl | rfl | rfl | rfl | rfl | rfl | rfl | rfl | rfl | rfl | rfl
  · show (!formB nm wd ln (rnDs tw k ds) (rnTs (rd_T44 ds (k : Int)).f1 tw bd)) = false
    unfold formB at hform ⊢
    simp only [Bool.and_eq_true] at hform
    obtain ⟨⟨⟨a1, a2⟩, a3⟩, a4, a5⟩ := hform
    rw [a1, a2, a3, rnDs_dc hk ht a4, bdB_rn hf ht, a5]; rfl
  · exact hr 1 (by decide)
  · exact hr 2 (by decide)
  · show (!decide ((rnDs tw k ds).length ≤ 256)) = false
    rw [rnDs_len]
    exact hr 3 (by decide)
  · refine fd (twiceB (rnDs tw k ds)) fun i hi => twice_of (ds := rnDs tw k ds) (fun a b ha hb hab => ?_) i (by rw [rnDs_len]; exact hi)
    rw [rnDs_len] at ha hb
    by_cases ea : a = k
    · subst ea
      rw [rnDs_at hk, rnDs_ne (fun x => hab x.symm)]
      exact fun x => findB_none hn b hb x.symm
    · by_cases eb : b = k
      · subst eb
        rw [rnDs_at hk, rnDs_ne ea]
        exact findB_none hn a ha
      · rw [rnDs_ne ea, rnDs_ne eb]
        exact twice_no h4 ha hb hab
  · exact fd (sizeBad (rnDs tw k ds)) fun i hi => by unfold sizeBad; rw [(rnDs_f hk i).2.1]; exact firstN_all (firstD_no (hr 5 (by decide))) i hi
  · exact fd (valuesBad (rnDs tw k ds)) fun i hi => by unfold valuesBad; rw [(rnDs_f hk i).1, (rnDs_f hk i).2.1, (rnDs_f hk i).2.2]; exact firstN_all (firstD_no (hr 6 (by decide))) i hi
  · exact fd (rangeBad wd (rnDs tw k ds)) fun i hi => by unfold rangeBad; rw [(rnDs_f hk i).2.2]; exact firstN_all (firstD_no (hr 7 (by decide))) i hi
  · show (!decide (wordsS (rnDs tw k ds) ≤ 4096)) = false
    rw [rnDs_words hk]
    exact hr 8 (by decide)
  · exact fs 10 (hr 9 (by decide))
  · exact fs 11 (hr 10 (by decide))
  · exact fs 12 (hr 11 (by decide))
  · exact fs 13 (hr 12 (by decide))
  · exact fs 14 (hr 13 (by decide))
  · exact fs 15 (hr 14 (by decide))
  · show (!decide (sizeB (rnTs (rd_T44 ds (k : Int)).f1 tw bd) ≤ 65536)) = false
    rw [sizeB_rn]
    exact hr 15 (by decide)
end
end Go.Proofs.Ytfcahachdpjfoaa.L
end
section
namespace Go.Proofs.Ytfcahachdpjfoaa.L
open Go.RowKit Go.Proofs.YtfcahachdpjfoaaW.PrintWords Go.Proofs.YtfcahachdpjfoaaW.PrintLast Go.Proofs.YtfcahachdpjfoaaW.PrintMore Go.Proofs.Ytfcahachdpjfoaa.Gr
set_option linter.unusedVariables false
set_option linter.unusedSimpArgs false
theorem heap44 : Kd.Heap k44 := Kd.heap_iso _ (Kd.heap_pair (Kd.heap_int _) (Kd.heap_pair Kd.heap_string (Kd.heap_pair (Kd.heap_int _) (Kd.heap_slice 60 (Kd.heap_int _)))))
def zDe : Value := .agg #[.int .i64 0, .string ⟨#[]⟩, .int .i64 0, .slice none 0 0]
theorem info44 : (Try.prog.info? 44).map (fun i => (i.zero, i.size, i.bytes)) = some (some zDe, 4, 56) := by kernel_rfl
theorem under26 : Try.prog.underlying 26 = some (.slice 44) := by kernel_rfl
theorem N_empty (W : World) (base : Nat) (ok : Nat → Prop) (hb : base ≤ W.heap.size) (hok : ok W.heap.size) : Kd.N k44 44 (W.alloc (.cells #[] 44)) base ok (.slice (some ⟨W.heap.size, 0, none⟩) 0 0) [] :=
  Kd.R_N ⟨fun k hk => by simp [Value.ownBlock] at hk; exact hk ▸ hok, by simpa using OwnRow.lit (R := k44.M (W.alloc (.cells #[] 44)) base (fun k => ok k ∧ some k ≠ (Value.slice (some ⟨W.heap.size, 0, none⟩) 0 0).ownBlock)) (e := 44) (size := k44.sz) (ps := []) W base (inner := []) ⟨rfl, fun j p h => by simp at h⟩ hb (by simp)⟩
section
variable {W : World} {base g n cap : Nat} {xs : List S44} {ok : Nat → Prop}
theorem N44_at (h : Kd.N k44 44 W base ok (.slice (some ⟨g, 0, none⟩) n cap) xs) {k : Nat} (hk : k < n) : ∃ A3 c3, W.cell? ⟨g, k * 4, none⟩ = some (.int .i64 (rd_T44 xs (k : Int)).f0) ∧ W.cell? ⟨g, k * 4 + 1, none⟩ = some (.string (rd_T44 xs (k : Int)).f1) ∧ W.cell? ⟨g, k * 4 + 2, none⟩ = some (.int .i64 (rd_T44 xs (k : Int)).f2) ∧ W.cell? ⟨g, k * 4 + 3, none⟩ = some (.slice A3 (rd_T44 xs (k : Int)).f3.length c3) ∧
    (rd_T44 xs (k : Int)).f3.length ≤ c3 ∧ (Kd.int .u64).C W A3 (rd_T44 xs (k : Int)).f3.length (rd_T44 xs (k : Int)).f3 ∧ ∀ j, W.frozen? ⟨g, k * 4 + j, none⟩ = false := by
  obtain ⟨c, h1, h2, h3, h4⟩ := Kd.N_elem h z44 (k : Int) (Int.natCast_nonneg _) (by omega)
  obtain ⟨A3, c3, rfl, l3, g3⟩ := k44_openF h2
  rw [Int.toNat_natCast] at h3 h4
  exact ⟨A3, c3, h3 0 _ rfl, h3 1 _ rfl, h3 2 _ rfl, h3 3 _ rfl, l3, Kd.F_now g3, h4⟩
theorem N44_set0 (h : Kd.N k44 44 W base ok (.slice (some ⟨g, 0, none⟩) n cap) xs) {k : Nat} (hk : k < n) (u : Int) :
    Kd.N k44 44 (W.setCell ⟨g, k * 4, none⟩ (.int .i64 u)) base ok (.slice (some ⟨g, 0, none⟩) n cap) (xs.set k ⟨u, (rd_T44 xs (k : Int)).f1, (rd_T44 xs (k : Int)).f2, (rd_T44 xs (k : Int)).f3⟩) := by
  obtain ⟨c, h1, h2, h3, h4⟩ := Kd.N_elem h z44 (k : Int) (Int.natCast_nonneg _) (by omega)
  obtain ⟨A3, c3, rfl, l3, g3⟩ := k44_openF h2
  have := (Kd.N_seg h (k : Int) (Int.natCast_nonneg _) (by omega) (seg := [.int .i64 u]) (j := 0) h1 h3 (show 0 + 1 ≤ 4 by decide) (x' := ⟨u, (rd_T44 xs (k : Int)).f1, (rd_T44 xs (k : Int)).f2, (rd_T44 xs (k : Int)).f3⟩) (k44_mkF W _ ⟨u, (rd_T44 xs (k : Int)).f1, (rd_T44 xs (k : Int)).f2, (rd_T44 xs (k : Int)).f3⟩ l3 g3) (fun _ hk => hk)).1
  exact this
theorem N44_set1 (h : Kd.N k44 44 W base ok (.slice (some ⟨g, 0, none⟩) n cap) xs) {k : Nat} (hk : k < n) (u : ByteArray) :
    Kd.N k44 44 (W.setCell ⟨g, k * 4 + 1, none⟩ (.string u)) base ok (.slice (some ⟨g, 0, none⟩) n cap) (xs.set k ⟨(rd_T44 xs (k : Int)).f0, u, (rd_T44 xs (k : Int)).f2, (rd_T44 xs (k : Int)).f3⟩) := by
  obtain ⟨c, h1, h2, h3, h4⟩ := Kd.N_elem h z44 (k : Int) (Int.natCast_nonneg _) (by omega)
  obtain ⟨A3, c3, rfl, l3, g3⟩ := k44_openF h2
  have := (Kd.N_seg h (k : Int) (Int.natCast_nonneg _) (by omega) (seg := [.string u]) (j := 1) h1 h3 (show 1 + 1 ≤ 4 by decide) (x' := ⟨(rd_T44 xs (k : Int)).f0, u, (rd_T44 xs (k : Int)).f2, (rd_T44 xs (k : Int)).f3⟩) (k44_mkF W _ ⟨(rd_T44 xs (k : Int)).f0, u, (rd_T44 xs (k : Int)).f2, (rd_T44 xs (k : Int)).f3⟩ l3 g3) (fun _ hk => hk)).1
  exact this
end
section
variable {fr tw : ByteArray}
theorem rn_ok {s : ByteArray} (hs : Ot.okS s) (ht : Ot.okS tw) : Ot.okS (rn fr tw s) := by
  rcases rn_cases (fr := fr) (tw := tw) s with ⟨_, h⟩ | ⟨_, h⟩ <;> rw [h] <;> assumption
mutual
theorem goodE_rn (ht : Ot.okS tw) : ∀ x : S75, Ot.goodE x → Ot.goodE (rnE fr tw x)
  | ⟨a, b, s, l⟩, h => by
    rw [Ot.goodE] at h
    rw [rnE, Ot.goodE, rnEs_len]
    exact ⟨h.1, h.2.1, rn_ok h.2.2.1 ht, h.2.2.2.1, goodEs_rn ht l h.2.2.2.2⟩
theorem goodEs_rn (ht : Ot.okS tw) : ∀ l : List S75, Ot.goodEs l → Ot.goodEs (rnEs fr tw l)
  | [], h => by rw [rnEs]; exact h
  | x :: r, h => by
    rw [Ot.goodEs] at h
    rw [rnEs, Ot.goodEs]
    exact ⟨goodE_rn ht x h.1, goodEs_rn ht r h.2⟩
end
mutual
theorem goodT_rn (ht : Ot.okS tw) : ∀ x : S77, Ot.goodT x → Ot.goodT (rnT fr tw x)
  | ⟨a, s, e, f, lo, hi, th, el⟩, h => by
    rw [Ot.goodT] at h
    obtain ⟨h1, h2, h3, h4, h5, h6, h7, h8, h9, h10⟩ := h
    rw [rnT, Ot.goodT, rnTs_len, rnTs_len]
    exact ⟨h1, rn_ok h2 ht, goodE_rn ht e h3, goodE_rn ht f h4, h5, h6, h7, h8, goodTs_rn ht th h9, goodTs_rn ht el h10⟩
theorem goodTs_rn (ht : Ot.okS tw) : ∀ l : List S77, Ot.goodTs l → Ot.goodTs (rnTs fr tw l)
  | [], h => by rw [rnTs]; exact h
  | x :: r, h => by
    rw [Ot.goodTs] at h
    rw [rnTs, Ot.goodTs]
    exact ⟨goodT_rn ht x h.1, goodTs_rn ht r h.2⟩
end
mutual
theorem bulkE_rn : ∀ x : S75, Ot.bulkE (rnE fr tw x) = Ot.bulkE x
  | ⟨a, b, s, l⟩ => by rw [rnE, Ot.bulkE, Ot.bulkE, bulkEs_rn l]
theorem bulkEs_rn : ∀ l : List S75, Ot.bulkEs (rnEs fr tw l) = Ot.bulkEs l
  | [] => by rw [rnEs]
  | x :: r => by rw [rnEs, Ot.bulkEs, Ot.bulkEs, bulkE_rn x, bulkEs_rn r]
end
mutual
theorem bulkT_rn : ∀ x : S77, Ot.bulkT (rnT fr tw x) = Ot.bulkT x
  | ⟨a, s, e, f, lo, hi, th, el⟩ => by rw [rnT, Ot.bulkT, Ot.bulkT, bulkE_rn e, bulkE_rn f, bulkTs_rn th, bulkTs_rn el]
theorem bulkTs_rn : ∀ l : List S77, Ot.bulkTs (rnTs fr tw l) = Ot.bulkTs l
  | [] => by rw [rnTs]
  | x :: r => by rw [rnTs, Ot.bulkTs, Ot.bulkTs, bulkT_rn x, bulkTs_rn r]
end
end
theorem set_bulk : ∀ (ds : List S44) (k : Nat) (d : S44), (∀ x, ds[k]? = some x → d.f3 = x.f3) → ((ds.set k d).map Ot.bulkD).sum = (ds.map Ot.bulkD).sum
  | [], _, _, _ => rfl
  | x :: r, 0, d, h => by
    rw [List.set_cons_zero, List.map_cons, List.map_cons, List.sum_cons, List.sum_cons]
    unfold Ot.bulkD
    rw [h x rfl]
  | x :: r, k + 1, d, h => by
    rw [List.set_cons_succ, List.map_cons, List.map_cons, List.sum_cons, List.sum_cons, set_bulk r k d fun y hy => h y (by simpa using hy)]
theorem rd_get {ds : List S44} {k : Nat} {x : S44} (h : ds[k]? = some x) : rd_T44 ds (k : Int) = x := by
  unfold rd_T44
  rw [Int.toNat_natCast, List.getD_eq_getElem?_getD, h]; rfl
theorem PGood.set {nm : ByteArray} {wd ln : Int} {ds : List S44} {bd : List S77} (hg : PGood nm wd ln ds bd) {k : Nat} (hk : k < ds.length) {a : Int} {s : ByteArray} (ha : Ot.okI a) (hs : Ot.okS s) : PGood nm wd ln (ds.set k ⟨a, s, (rd_T44 ds (k : Int)).f2, (rd_T44 ds (k : Int)).f3⟩) bd := by
  refine ⟨⟨hg.good.nm, hg.good.wd, hg.good.ln, by simpa using hg.good.dl, fun d hd => ?_, hg.good.bl, hg.good.bd⟩, ?_⟩
  · rcases List.mem_or_eq_of_mem_set hd with hd | rfl
    · exact hg.good.ds d hd
    · have := hg.good.ds _ (rd44_mem hk)
      exact ⟨ha, hs, this.2.2.1, this.2.2.2.1, this.2.2.2.2⟩
  · have := hg.bulk
    simp only [Ot.bulkP] at this ⊢
    rw [set_bulk ds k _ fun x hx => by rw [rd_get hx]]
    exact this
theorem PGood.body {nm : ByteArray} {wd ln : Int} {ds : List S44} {bd : List S77} (hg : PGood nm wd ln ds bd) {fr tw : ByteArray} (ht : Ot.okS tw) : PGood nm wd ln ds (rnTs fr tw bd) := by
  refine ⟨⟨hg.good.nm, hg.good.wd, hg.good.ln, hg.good.dl, hg.good.ds, by simp only [rnTs_len]; exact hg.good.bl, (Ot.goodTs_iff _).1 (goodTs_rn ht bd ((Ot.goodTs_iff bd).2 hg.good.bd))⟩, ?_⟩
  have := hg.bulk
  simp only [Ot.bulkP, bulkTs_rn] at this ⊢
  exact this
end Go.Proofs.Ytfcahachdpjfoaa.L
end
section
namespace Go.Proofs.Ytfcahachdpjfoaa.L
open Go.RowKit Go.Proofs.YtfcahachdpjfoaaW.PrintWords
set_option linter.unusedVariables false
set_option linter.unusedSimpArgs false
def kAt (ks : List Int) (i : Nat) : Int := rdOf (0 : Int) ks ((i % ks.length : Nat) : Int)
def kOk (d : S44) (k : Int) : Bool := d.f0 != 3 && decide (1 ≤ k) && decide (k ≤ 5) && k != 3
def kNew (ks : List Int) (i : Nat) (d : S44) : S44 := if kOk d (kAt ks i) = true then ⟨kAt ks i, d.f1, d.f2, d.f3⟩ else d
def kDs (ks : List Int) (ds : List S44) : Nat → List S44
  | 0 => ds
  | m + 1 => (kDs ks ds m).set m (kNew ks m (rd_T44 ds (m : Int)))
theorem kDs_len (ks : List Int) (ds : List S44) : ∀ m, (kDs ks ds m).length = ds.length
  | 0 => rfl
  | m + 1 => by rw [kDs, List.length_set, kDs_len ks ds m]
theorem rd_set {ds : List S44} {m j : Nat} {d : S44} (hm : m < ds.length) : rd_T44 (ds.set m d) (j : Int) = if j = m then d else rd_T44 ds (j : Int) := by
  unfold rd_T44
  rw [Int.toNat_natCast, List.getD_eq_getElem?_getD, List.getD_eq_getElem?_getD]
  split
  · rename_i h; subst h; rw [List.getElem?_set_self hm]; rfl
  · rename_i h; rw [List.getElem?_set_ne (fun x => h x.symm)]
theorem kDs_rd (ks : List Int) (ds : List S44) : ∀ m, m ≤ ds.length → ∀ j : Nat, rd_T44 (kDs ks ds m) (j : Int) = if j < m then kNew ks j (rd_T44 ds (j : Int)) else rd_T44 ds (j : Int)
  | 0, _, j => by rw [kDs, if_neg (Nat.not_lt_zero _)]
  | m + 1, h, j => by
    rw [kDs, rd_set (by rw [kDs_len]; omega), kDs_rd ks ds m (by omega) j]
    by_cases h1 : j = m
    · subst h1; rw [if_pos rfl, if_pos (by omega)]
    · rw [if_neg h1]
      by_cases h2 : j < m
      · rw [if_pos h2, if_pos (by omega)]
      · rw [if_neg h2, if_neg (by omega)]
theorem kNew_same (ks : List Int) (i : Nat) (d : S44) : SameD d (kNew ks i d) := by
  unfold kNew
  split
  · rename_i h
    unfold kOk at h
    simp only [Bool.and_eq_true, bne_iff_ne, ne_eq, decide_eq_true_eq] at h
    exact ⟨rfl, rfl, rfl, ⟨fun x => absurd x h.2, fun x => absurd x h.1.1.1⟩, fun _ _ => ⟨h.1.1.2, h.1.2⟩⟩
  · exact SameD.refl d
theorem kDs_same (ks : List Int) (ds : List S44) : SameDs ds (kDs ks ds ds.length) :=
  ⟨kDs_len ks ds _, fun i hi => by rw [kDs_rd ks ds _ (Nat.le_refl _) i, if_pos hi]; exact kNew_same ks i _⟩
theorem kNew_pos {ks : List Int} {i : Nat} {d : S44} (h : 1 ≤ d.f0) : 1 ≤ (kNew ks i d).f0 := by
  unfold kNew
  split
  · rename_i hk
    unfold kOk at hk
    simp only [Bool.and_eq_true, bne_iff_ne, ne_eq, decide_eq_true_eq] at hk
    exact hk.1.1.2
  · exact h
theorem isIn_lt {d : S44} (h : 1 ≤ d.f0) : isIn d = decide (d.f0 < 3) := by
  unfold isIn
  by_cases h1 : d.f0 < 3
  · rw [decide_eq_true h1]
    simp only [Bool.or_eq_true, beq_iff_eq]; omega
  · rw [decide_eq_false h1]
    simp only [Bool.or_eq_false_iff, beq_eq_false_iff_ne]; omega
theorem kDs_good {nm : ByteArray} {wd ln : Int} {ds : List S44} {bd : List S77} (hg : PGood nm wd ln ds bd) (ks : List Int) : ∀ m, m ≤ ds.length → PGood nm wd ln (kDs ks ds m) bd
  | 0, _ => hg
  | m + 1, h => by
    have ih := kDs_good hg ks m (by omega)
    have hr := kDs_rd ks ds m (by omega) m
    rw [if_neg (Nat.lt_irrefl _)] at hr
    rw [kDs]
    have key : ∀ a : Int, Ot.okI a → PGood nm wd ln ((kDs ks ds m).set m ⟨a, (rd_T44 ds (m : Int)).f1, (rd_T44 ds (m : Int)).f2, (rd_T44 ds (m : Int)).f3⟩) bd := by
      intro a ha
      have := ih.set (k := m) (by rw [kDs_len]; omega) (s := (rd_T44 ds (m : Int)).f1) ha (hg.good.ds _ (rd44_mem (l := ds) (show m < ds.length by omega))).2.1
      rw [hr] at this
      exact this
    unfold kNew
    split
    · rename_i hk
      unfold kOk at hk
      simp only [Bool.and_eq_true, bne_iff_ne, ne_eq, decide_eq_true_eq] at hk
      exact key _ (okI_of (by
        have h1 := hk.1.1.2
        have h2 := hk.1.2
        simp [Lit.wf, IntKind.min, IntKind.max, IntKind.bits, IntKind.signed]; omega))
    · exact key _ (hg.good.ds _ (rd44_mem (l := ds) (show m < ds.length by omega))).1
theorem right_decls {nm : ByteArray} {wd ln : Int} {ds : List S44} {bd : List S77} (h : (faultS nm wd ln ds bd).e = 0) : ∀ i : Nat, i < ds.length → 1 ≤ (rd_T44 ds (i : Int)).f0 ∧ ((rd_T44 ds (i : Int)).f2 = 0 ∨ pow2B (rd_T44 ds (i : Int)).f2 = true) := by
  intro i hi
  have hr := right_all h
  refine ⟨?_, ?_⟩
  · have hform : formB nm wd ln ds bd = true := b_no (hr 0 (by decide))
    unfold formB at hform
    simp only [Bool.and_eq_true] at hform
    have := List.all_eq_true.1 hform.2.1 _ (rd44_mem hi)
    unfold dcB at this
    simp only [Bool.and_eq_true, decide_eq_true_eq] at this
    exact this.1.1.1.1
  · have h6 := firstN_all (firstD_no (hr 5 (by decide))) i hi
    unfold sizeBad at h6
    simp only [Bool.and_eq_false_iff, bne_eq_false_iff_eq, Bool.not_eq_false'] at h6
    exact h6
theorem size_right {nm : ByteArray} {wd ln : Int} {ds : List S44} {bd : List S77} (h : (faultS nm wd ln ds bd).e = 0) : (((sizeB bd : Nat) : Int), (0 : Int)) = sizeS 1099511627776 nm wd ln ds bd := by
  unfold sizeS
  have := size_le h
  rw [if_pos h, Nat.min_eq_left (by omega)]
end Go.Proofs.Ytfcahachdpjfoaa.L
end
section
set_option linter.unusedVariables false
namespace Go.Proofs.Ytfcahachdpjfoaa.Ot
open Go.RowKit Go.Proofs.Ytfcahachdpjfoaa.L Go.Proofs.YtfcahachdpjfoaaW.PrintWords Go.Proofs.Ytfcahachdpjfoaa.Op
def kI : Kd (List Int) := Kd.slice 3 (Kd.int .i64)
abbrev opensI_K (w : World) : List Int → List Value → Prop := kI.K w
abbrev opensI_good (x : List Int) : Prop := x.length * 8 ≤ 140737488351232 ∧ ∀ v ∈ x, okI v
abbrev opensI_bulk (x : List Int) : Nat := x.length
theorem opensI {H : Type} {enc : TypeId × Value → H} {w : World} (n : Nat) : Opens enc Try.prog w Rows.uptoBulk n 41 kI opensI_good opensI_bulk := by
  have h : Opens enc Try.prog w Rows.uptoBulk n 41 (Kd.slice 3 (Kd.int .i64)) _ _ := opens_slice bulk (bytes := 8) Try.underlying41 (by kernel_rfl) (by kernel_rfl) (by decide) fun m' hm' => opens_int bulk Try.underlying3
  refine opens_weaken h (fun _ h => h) fun a => ?_
  simp only [sum_ones, opensI_bulk]
  omega
end Go.Proofs.Ytfcahachdpjfoaa.Ot
end
