/- Texts joined by a program of mine: Tk Ph. -/
import Derived.Test.YtfigjpehecibeaaGreatZd21
import Derived.Test.YtfigjpehecibeaaGreatZd24
section
namespace Go.Proofs.YtfigjpehecibeaaGreat.L
open Go.RowKit Go.Proofs.YtfigjpehecibeaaGreatW.PrintWords Go.Proofs.YtfigjpehecibeaaGreatW.PrintLast Go.Proofs.YtfigjpehecibeaaGreatW.PrintMore Go.Proofs.YtfigjpehecibeaaGreat.Gr
set_option linter.unusedVariables false
set_option linter.unusedSimpArgs false
attribute [local go_sem] G.cell
set_option maxHeartbeats 4000000 in
set_option maxRecDepth 100000 in
theorem own29_calls (nm : ByteArray) (wd ln : Int) (ds : List S70) (bd : List S119) (A3 : Option Addr) (c3 : Nat) (A4 : Option Addr) (c4 : Nat) (w : World) (hp : ProgAt w ds bd A3 c3 A4 c4) (hg : PGood nm wd ln ds bd) :
    Calls Tryz.prog 21 #[.agg #[.string nm, .int .i64 wd, .int .i64 ln, .slice A3 ds.length c3, .slice A4 bd.length c4]] w fun e w' => ∃ A3' c3' A4' c4', e = .returned (.agg #[.string nm, .int .i64 wd, .int .i64 ln, .slice A3' ds.length c3', .slice A4' bd.length c4']) ∧ ProgAt w' ds bd A3' c3' A4' c4' ∧ Below w.heap.size w w' := by
  have PAt := Aside0.mk hp
  have HG := Aside0.mk hg
  clear hp hg
  go_enter Tryz.func21, Tryz.ntmps21
  go_upto_region 1 with (fail)
  obtain ⟨X, hX⟩ : ∃ X, X = (w.alloc (.cells #[.string nm, .int .i64 wd, .int .i64 ln, .slice A3 ds.length c3, .slice A4 bd.length c4] 25)).alloc (.cells #[.string ⟨#[]⟩, .int .i64 0, .int .i64 0, .slice none 0 0, .slice none 0 0] 25) := ⟨_, rfl⟩
  rw [← hX]
  have KX := Aside0.mk (show Below w.heap.size w X ∧ X.heap[w.heap.size]? = some (.cells #[.string nm, .int .i64 wd, .int .i64 ln, .slice A3 ds.length c3, .slice A4 bd.length c4] 25 (0, 0)) ∧ X.heap[w.heap.size + 1]? = some (.cells #[.string ⟨#[]⟩, .int .i64 0, .int .i64 0, .slice none 0 0, .slice none 0 0] 25 (0, 0)) from by
    rw [hX]
    exact ⟨((Below.refl _ _).alloc (Nat.le_refl _) _).alloc (by simp) _, blk_alloc (blk_new _ _) _, by simpa using blk_new (w.alloc (.cells #[.string nm, .int .i64 wd, .int .i64 ln, .slice A3 ds.length c3, .slice A4 bd.length c4] 25)) (.cells #[.string ⟨#[]⟩, .int .i64 0, .int .i64 0, .slice none 0 0, .slice none 0 0] 25)⟩)
  clear hX
  have OUT := Aside0.mk (show ∀ g : G X, Below w.heap.size w g.W from fun g => KX.out.1.trans (g.below.mono KX.out.1.size))
  refine wp_grown0 ?_
  intro gg
  have p0 : ∀ g : G X, g.W.cell? ⟨w.heap.size, 0, none⟩ = some (.string nm) := fun g => (blk_cell (blk_below KX.out.2.1 g.below) 0).trans rfl
  have p1 : ∀ g : G X, g.W.cell? ⟨w.heap.size, 1, none⟩ = some (.int .i64 wd) := fun g => (blk_cell (blk_below KX.out.2.1 g.below) 1).trans rfl
  have p2 : ∀ g : G X, g.W.cell? ⟨w.heap.size, 2, none⟩ = some (.int .i64 ln) := fun g => (blk_cell (blk_below KX.out.2.1 g.below) 2).trans rfl
  have p3 : ∀ g : G X, g.W.cell? ⟨w.heap.size, 3, none⟩ = some (.slice A3 ds.length c3) := fun g => (blk_cell (blk_below KX.out.2.1 g.below) 3).trans rfl
  have p4 : ∀ g : G X, g.W.cell? ⟨w.heap.size, 4, none⟩ = some (.slice A4 bd.length c4) := fun g => (blk_cell (blk_below KX.out.2.1 g.below) 4).trans rfl
  go_wp2_with fail
  refine (great_calls nm wd ln ds bd A3 c3 A4 c4 gg.W (PAt.out.below (OUT.out gg))).mono ?_
  rintro _ w9 ⟨⟨b, rfl⟩, hb⟩
  obtain ⟨gg, rfl⟩ : ∃ g : G X, w9 = g.W := ⟨mkG (gg.below.trans (hb.mono gg.below.size)), rfl⟩
  clear hb
  rcases bcases b with rfl | rfl
  · obtain ⟨w9, hw9⟩ : ∃ w9, w9 = gg.W := ⟨_, rfl⟩
    have HZ := Aside0.mk (show w9.heap[w.heap.size + 1]? = some (.cells #[.string ⟨#[]⟩, .int .i64 0, .int .i64 0, .slice none 0 0, .slice none 0 0] 25 (0, 0)) from hw9 ▸ blk_below KX.out.2.2 gg.below)
    have q0 := hw9 ▸ p0 gg
    have q1 := hw9 ▸ p1 gg
    have q2 := hw9 ▸ p2 gg
    have q3 := hw9 ▸ p3 gg
    have q4 := hw9 ▸ p4 gg
    have HO := Aside0.mk (show Below w.heap.size w w9 from hw9 ▸ OUT.out gg)
    rw [← hw9]
    clear hw9
    have r0 : w9.cell? ⟨w.heap.size + 1, 0, none⟩ = some (.string ⟨#[]⟩) := (blk_cell HZ.out 0).trans rfl
    have f0 := blk_frozen HZ.out 0
    have r1 : w9.cell? ⟨w.heap.size + 1, 1, none⟩ = some (.int .i64 0) := (blk_cell HZ.out 1).trans rfl
    have f1 := blk_frozen HZ.out 1
    have r2 : w9.cell? ⟨w.heap.size + 1, 2, none⟩ = some (.int .i64 0) := (blk_cell HZ.out 2).trans rfl
    have f2 := blk_frozen HZ.out 2
    have r3 : w9.cell? ⟨w.heap.size + 1, 3, none⟩ = some (.slice none 0 0) := (blk_cell HZ.out 3).trans rfl
    have f3 := blk_frozen HZ.out 3
    have r4 : w9.cell? ⟨w.heap.size + 1, 4, none⟩ = some (.slice none 0 0) := (blk_cell HZ.out 4).trans rfl
    have f4 := blk_frozen HZ.out 4
    go_wp2_with fail
    refine bodyPost_ret (results_cell_row rfl _ _ (w.heap.size + 1) 25 #[.string nm, .int .i64 wd, .int .i64 ln, .slice A3 ds.length c3, .slice A4 bd.length c4] (0, 0) _ rfl ((blk_put (blk_put (blk_put (blk_put (blk_put HZ.out 0 _ rfl) 1 _ rfl) 2 _ rfl) 3 _ rfl) 4 _ rfl)) Tryz.underlying25 rfl (by kernel_rfl)) rfl ?_
    have HB := (((((HO.out.setCell (p := ⟨w.heap.size + 1, 0, none⟩) (show w.heap.size ≤ w.heap.size + 1 by omega) (.string nm)).setCell (p := ⟨w.heap.size + 1, 1, none⟩) (show w.heap.size ≤ w.heap.size + 1 by omega) (.int .i64 wd)).setCell (p := ⟨w.heap.size + 1, 2, none⟩) (show w.heap.size ≤ w.heap.size + 1 by omega) (.int .i64 ln)).setCell (p := ⟨w.heap.size + 1, 3, none⟩) (show w.heap.size ≤ w.heap.size + 1 by omega) (.slice A3 ds.length c3)).setCell (p := ⟨w.heap.size + 1, 4, none⟩) (show w.heap.size ≤ w.heap.size + 1 by omega) (.slice A4 bd.length c4))
    exact ⟨A3, c3, A4, c4, rfl, PAt.out.below HB, HB⟩
  · go_wp2_with fail
    refine (ownP_calls nm wd ln ds bd A3 c3 A4 c4 gg.W (PAt.out.below (OUT.out gg)) HG.out).mono ?_
    rintro _ w9 ⟨A3', c3', A4', c4', rfl, hR, hb⟩
    have HR := Aside0.mk hR
    have HS := Aside0.mk (show w.heap.size + 1 < gg.W.heap.size from blk_lt (blk_below KX.out.2.2 gg.below))
    have HZ := Aside0.mk (blk_below (blk_below KX.out.2.2 gg.below) hb)
    have HO := Aside0.mk (show Below w.heap.size w w9 from (OUT.out gg).trans (hb.mono (OUT.out gg).size))
    clear hR hb
    have r0 : w9.cell? ⟨w.heap.size + 1, 0, none⟩ = some (.string ⟨#[]⟩) := (blk_cell HZ.out 0).trans rfl
    have f0 := blk_frozen HZ.out 0
    have r1 : w9.cell? ⟨w.heap.size + 1, 1, none⟩ = some (.int .i64 0) := (blk_cell HZ.out 1).trans rfl
    have f1 := blk_frozen HZ.out 1
    have r2 : w9.cell? ⟨w.heap.size + 1, 2, none⟩ = some (.int .i64 0) := (blk_cell HZ.out 2).trans rfl
    have f2 := blk_frozen HZ.out 2
    have r3 : w9.cell? ⟨w.heap.size + 1, 3, none⟩ = some (.slice none 0 0) := (blk_cell HZ.out 3).trans rfl
    have f3 := blk_frozen HZ.out 3
    have r4 : w9.cell? ⟨w.heap.size + 1, 4, none⟩ = some (.slice none 0 0) := (blk_cell HZ.out 4).trans rfl
    have f4 := blk_frozen HZ.out 4
    go_wp2_with fail
    refine bodyPost_ret (results_cell_row rfl _ _ (w.heap.size + 1) 25 #[.string nm, .int .i64 wd, .int .i64 ln, .slice A3' ds.length c3', .slice A4' bd.length c4'] (0, 0) _ rfl ((blk_put (blk_put (blk_put (blk_put (blk_put HZ.out 0 _ rfl) 1 _ rfl) 2 _ rfl) 3 _ rfl) 4 _ rfl)) Tryz.underlying25 rfl (by kernel_rfl)) rfl ?_
    have HB := (((((HO.out.setCell (p := ⟨w.heap.size + 1, 0, none⟩) (show w.heap.size ≤ w.heap.size + 1 by omega) (.string nm)).setCell (p := ⟨w.heap.size + 1, 1, none⟩) (show w.heap.size ≤ w.heap.size + 1 by omega) (.int .i64 wd)).setCell (p := ⟨w.heap.size + 1, 2, none⟩) (show w.heap.size ≤ w.heap.size + 1 by omega) (.int .i64 ln)).setCell (p := ⟨w.heap.size + 1, 3, none⟩) (show w.heap.size ≤ w.heap.size + 1 by omega) (.slice A3' ds.length c3')).setCell (p := ⟨w.heap.size + 1, 4, none⟩) (show w.heap.size ≤ w.heap.size + 1 by omega) (.slice A4' bd.length c4'))
    have hs := HS.out
    refine ⟨A3', c3', A4', c4', rfl, prog_of_R (base := gg.W.heap.size) (ok := fun b => gg.W.heap.size ≤ b) ?_ ?_, HB⟩
    · exact (Kd.R_far (Kd.R_far (Kd.R_far (Kd.R_far (Kd.R_far (Kd.R_mono (Kd.R_bound HR.out.1) (fun b hb => hb.2.1)) (p := ⟨w.heap.size + 1, 0, none⟩) (fun b hb => by show b ≠ w.heap.size + 1; omega) _) (p := ⟨w.heap.size + 1, 1, none⟩) (fun b hb => by show b ≠ w.heap.size + 1; omega) _) (p := ⟨w.heap.size + 1, 2, none⟩) (fun b hb => by show b ≠ w.heap.size + 1; omega) _) (p := ⟨w.heap.size + 1, 3, none⟩) (fun b hb => by show b ≠ w.heap.size + 1; omega) _) (p := ⟨w.heap.size + 1, 4, none⟩) (fun b hb => by show b ≠ w.heap.size + 1; omega) _)
    · exact (Kd.R_far (Kd.R_far (Kd.R_far (Kd.R_far (Kd.R_far (Kd.R_mono (Kd.R_bound HR.out.2) (fun b hb => hb.2.1)) (p := ⟨w.heap.size + 1, 0, none⟩) (fun b hb => by show b ≠ w.heap.size + 1; omega) _) (p := ⟨w.heap.size + 1, 1, none⟩) (fun b hb => by show b ≠ w.heap.size + 1; omega) _) (p := ⟨w.heap.size + 1, 2, none⟩) (fun b hb => by show b ≠ w.heap.size + 1; omega) _) (p := ⟨w.heap.size + 1, 3, none⟩) (fun b hb => by show b ≠ w.heap.size + 1; omega) _) (p := ⟨w.heap.size + 1, 4, none⟩) (fun b hb => by show b ≠ w.heap.size + 1; omega) _)
end Go.Proofs.YtfigjpehecibeaaGreat.L
end
section
namespace Go.Proofs.YtfigjpehecibeaaGreat.L
open Go.RowKit Go.Proofs.YtfigjpehecibeaaGreatW.PrintWords Go.Proofs.YtfigjpehecibeaaGreatW.PrintLast Go.Proofs.YtfigjpehecibeaaGreatW.PrintMore Go.Proofs.YtfigjpehecibeaaGreat.Gr
set_option linter.unusedVariables false
set_option linter.unusedSimpArgs false
attribute [local go_sem] G.cell
set_option maxHeartbeats 4000000 in
set_option maxRecDepth 100000 in
theorem bruteBits_walk (nm : ByteArray) (wd ln : Int) (ds : List S70) (bd : List S119) (A3 : Option Addr) (c3 : Nat) (A4 : Option Addr) (c4 : Nat) (w : World) (hp : ProgAt w ds bd A3 c3 A4 c4) (hg : PGood nm wd ln ds bd) :
    Calls Tryz.prog 4 #[.agg #[.string nm, .int .i64 wd, .int .i64 ln, .slice A3 ds.length c3, .slice A4 bd.length c4]] w fun e w' => e = .returned (.bool true) ∧ Below w.heap.size w w' := by
  have gout : ∀ {o : Obj} (g : G (w.alloc o)), Below w.heap.size w g.W := fun g => ((Below.refl _ _).alloc (Nat.le_refl _) _).trans (g.below.mono (by simp))
  have PAt := Aside0.mk hp
  have HG := Aside0.mk hg
  obtain ⟨kk, x, y, er, h1, h2⟩ := bits_same hg
  have HP := Aside0.mk (And.intro h1 h2)
  clear hp hg h1 h2
  go_enter Tryz.func4, Tryz.ntmps4
  go_upto_region 1 with (fail)
  refine wp_grown0 ?_
  intro gg
  go_wp2_with fail
  refine (own29_calls nm wd ln ds bd A3 c3 A4 c4 gg.W (PAt.out.below (gout gg)) HG.out).mono ?_
  rintro _ w9 ⟨A31, c31, A41, c41, rfl, hp9, hb⟩
  obtain ⟨gg, rfl⟩ : ∃ g' : G _, w9 = g'.W := ⟨mkG (gg.below.trans (hb.mono gg.below.size)), rfl⟩
  have P1 := Aside0.mk hp9
  clear hp9 hb
  go_wp2_with fail
  refine (call_of (g := gg) (brute_Bits.calls kk nm wd ln A31 c31 ds A41 c41 bd x y er gg.W P1.out.hd P1.out.hld P1.out.hb P1.out.hlb HP.out.1)).mono ?_
  rintro _ _ ⟨rfl, gg, rfl⟩
  go_wp2_with fail
  refine (call_of (g := gg) (cadenceref29_Bits.calls kk nm wd ln A3 c3 ds A4 c4 bd x y er gg.W (PAt.out.below (gout gg)).hd (PAt.out.below (gout gg)).hld (PAt.out.below (gout gg)).hb (PAt.out.below (gout gg)).hlb HP.out.2)).mono ?_
  rintro _ _ ⟨rfl, gg, rfl⟩
  go_wp2_with fail
  go_ret
  exact ⟨rfl, gout gg⟩
theorem bruteBits_law (v0 : Value) (x0 : Ot.Prog) (w : World) (s0 : ∃ cs, v0 = .agg cs ∧ cs.size = Tryz.prog.cellsOf 25) (k0 : Ot.opensP_K w x0 v0.cells.toList) (g0 : Ot.opensP_good x0) {m0 : Nat} (b0 : Ot.opensP_bulk x0 ≤ m0) (up : m0 ≤ 1048576) :
    Calls Tryz.prog 4 #[v0] w fun e w' => e = .returned (.bool true) ∧ Below w.heap.size w w' := by
  obtain ⟨A3, c3, A4, c4, rfl, l3, g3, l4, g4⟩ := Ot.prog_of_K (s0.imp fun _ h => h.1) k0
  exact bruteBits_walk x0.nm x0.wd x0.ln x0.ds x0.bd A3 c3 A4 c4 w ⟨g3, l3, g4, l4⟩ ⟨g0, Nat.le_trans b0 up⟩
end Go.Proofs.YtfigjpehecibeaaGreat.L
end
