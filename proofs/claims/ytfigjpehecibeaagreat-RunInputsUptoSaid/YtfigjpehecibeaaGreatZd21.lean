/- Texts joined by a program of mine: Tf Ti Pa. -/
import Derived.Test.YtfigjpehecibeaaGreatZd2
import Derived.Test.YtfigjpehecibeaaGreatZd19
import Derived.Test.YtfigjpehecibeaaGreatZd20
section
namespace Go.Proofs.YtfigjpehecibeaaGreat.L
open Go.RowKit Go.Proofs.YtfigjpehecibeaaGreatW.PrintWords Go.Proofs.YtfigjpehecibeaaGreatW.PrintLast Go.Proofs.YtfigjpehecibeaaGreatW.PrintMore Go.Proofs.YtfigjpehecibeaaGreat.Gr
set_option linter.unusedVariables false
set_option linter.unusedSimpArgs false
attribute [local go_sem] G.cell
theorem info60 : (Tryz.prog.info? 74).map (fun i => (i.zero, i.size, i.bytes)) = some (some (.int .u64 0), 1, 8) := by kernel_rfl
theorem under42 : Tryz.prog.underlying 36 = some (.slice 74) := by kernel_rfl
theorem prog_of_R {W : World} {base : Nat} {ok : Nat → Prop} {ds : List S70} {bd : List S119} {A A' : Option Addr} {c c' : Nat} (h1 : k70.R 70 W base ok (.slice A ds.length c) ds) (h2 : k119.R 119 W base ok (.slice A' bd.length c') bd) : ProgAt W ds bd A c A' c' := by
  obtain ⟨A1, c1, e, l, C1⟩ := Kd.R_reads h1
  injection e with a1 _ a3
  subst a1 a3
  obtain ⟨A2, c2, e, l2, C2⟩ := Kd.R_reads h2
  injection e with a1 _ a3
  subst a1 a3
  exact ⟨C1, l, C2, l2⟩
set_option maxHeartbeats 4000000 in
set_option maxRecDepth 100000 in
theorem ownP_calls (nm : ByteArray) (wd ln : Int) (ds : List S70) (bd : List S119) (A3 : Option Addr) (c3 : Nat) (A4 : Option Addr) (c4 : Nat) (w : World) (hp : ProgAt w ds bd A3 c3 A4 c4) (hg : PGood nm wd ln ds bd) :
    Calls Tryz.prog 59 #[.agg #[.string nm, .int .i64 wd, .int .i64 ln, .slice A3 ds.length c3, .slice A4 bd.length c4]] w fun e w' => ∃ A3' c3' A4' c4', e = .returned (.agg #[.string nm, .int .i64 wd, .int .i64 ln, .slice A3' ds.length c3', .slice A4' bd.length c4']) ∧ (k70.R 70 w' w.heap.size (fun _ => True) (.slice A3' ds.length c3') ds ∧ k119.R 119 w' w.heap.size (fun _ => True) (.slice A4' bd.length c4') bd) ∧ Below w.heap.size w w' := by
  have PAt := Aside0.mk hp
  have HG := Aside0.mk hg
  have hlm := hp.hd.2.1
  clear hp hg
  go_enter Tryz.func59, Tryz.ntmps59
  go_upto_region 3 with (fail)
  obtain ⟨X, hX⟩ : ∃ X, X = ((w.alloc (.cells #[.string nm, .int .i64 wd, .int .i64 ln, .slice A3 ds.length c3, .slice A4 bd.length c4] 25)).alloc (.cells #[.string ⟨#[]⟩, .int .i64 0, .int .i64 0, .slice none 0 0, .slice none 0 0] 25)).alloc (.cells #[.string nm, .int .i64 wd, .int .i64 ln, .slice none 0 0, .slice A4 bd.length c4] 25) := ⟨_, rfl⟩
  rw [← hX]
  have KX := Aside0.mk (show Below w.heap.size w X ∧ X.heap[w.heap.size]? = some (.cells #[.string nm, .int .i64 wd, .int .i64 ln, .slice A3 ds.length c3, .slice A4 bd.length c4] 25 (0, 0)) ∧ X.heap[w.heap.size + 1]? = some (.cells #[.string ⟨#[]⟩, .int .i64 0, .int .i64 0, .slice none 0 0, .slice none 0 0] 25 (0, 0)) ∧ X.heap[w.heap.size + 1 + 1]? = some (.cells #[.string nm, .int .i64 wd, .int .i64 ln, .slice none 0 0, .slice A4 bd.length c4] 25 (0, 0)) from by
    rw [hX]
    exact ⟨(((Below.refl _ _).alloc (Nat.le_refl _) _).alloc (by simp) _).alloc (by simp; omega) _, blk_alloc (blk_alloc (blk_new _ _) _) _, blk_alloc (by simpa using blk_new (w.alloc (.cells #[.string nm, .int .i64 wd, .int .i64 ln, .slice A3 ds.length c3, .slice A4 bd.length c4] 25)) (.cells #[.string ⟨#[]⟩, .int .i64 0, .int .i64 0, .slice none 0 0, .slice none 0 0] 25)) _, by simpa using blk_new ((w.alloc (.cells #[.string nm, .int .i64 wd, .int .i64 ln, .slice A3 ds.length c3, .slice A4 bd.length c4] 25)).alloc (.cells #[.string ⟨#[]⟩, .int .i64 0, .int .i64 0, .slice none 0 0, .slice none 0 0] 25)) (.cells #[.string nm, .int .i64 wd, .int .i64 ln, .slice none 0 0, .slice A4 bd.length c4] 25)⟩)
  clear hX
  go_wp2_with fail
  go_loopw [4] (fun i W => ∃ (k : Nat) (v : Value), i = .int .i64 k ∧ k ≤ ds.length ∧ Aside0 (Below w.heap.size w W ∧ W.heap[w.heap.size]? = some (.cells #[.string nm, .int .i64 wd, .int .i64 ln, .slice A3 ds.length c3, .slice A4 bd.length c4] 25 (0, 0)) ∧ W.heap[w.heap.size + 1]? = some (.cells #[.string ⟨#[]⟩, .int .i64 0, .int .i64 0, .slice none 0 0, .slice none 0 0] 25 (0, 0)) ∧ W.heap[w.heap.size + 1 + 1]? = some (.cells #[.string nm, .int .i64 wd, .int .i64 ln, v, .slice A4 bd.length c4] 25 (0, 0)) ∧ k70.R 70 W w.heap.size (fun b => w.heap.size + 1 + 1 < b) v (ds.take k))) (fun i _ => ds.length - (intOf i).toNat)
  case atStart => exact ⟨0, _, rfl, Nat.zero_le _, ⟨KX.out.1, KX.out.2.1, KX.out.2.2.1, KX.out.2.2.2, by rw [List.take_zero]; exact Kd.R_nil _ _ _ _ _⟩⟩
  case round =>
    obtain ⟨k, v, rfl, hk, HREL⟩ := hrel
    have LB := Aside0.mk (blk_lt HREL.out.2.2.2.1)
    have LT := Aside0.mk (show ∀ b, v.ownBlock = some b → b < wr.heap.size from by obtain ⟨_, inner, ho, _⟩ := HREL.out.2.2.2.2; exact fun b hb => own_lt ho b hb)
    have NE := Aside0.mk (show ∀ b, b ≤ w.heap.size + 1 + 1 → some b ≠ v.ownBlock from fun b hb he => by have h := HREL.out.2.2.2.2.1 b he.symm; exact absurd h (Nat.not_lt.2 hb))
    have z3 : wr.cell? ⟨w.heap.size, 3, none⟩ = some (.slice A3 ds.length c3) := (blk_cell HREL.out.2.1 3).trans rfl
    by_cases hlt : k < ds.length
    · obtain ⟨ad, A3d, c3d, e1, q0, q1, q2, q3, l3, g3⟩ := at_T70 PAt.out.hd (k : Int) (Int.natCast_nonneg _) (by omega)
      cases e1
      rw [Int.toNat_natCast] at q0 q1 q2 q3
      replace q0 := held_in HREL.out.1 q0
      replace q1 := held_in HREL.out.1 q1
      replace q2 := held_in HREL.out.1 q2
      replace q3 := held_in HREL.out.1 q3
      have K := Aside0.mk (And.intro l3 (And.intro g3 (HG.out.good.ds _ (rd44_mem hlt))))
      clear l3 g3
      have hi1 : (k : Int) < (ds.length : Int) := by omega
      have T := Aside0.mk (take_rd70 hlt)
      generalize rd_T70 ds (k : Int) = y at *
      go_upto_region 7 with (fail)
      have HO := Aside0.mk (show (Kd.int .u64).R 74 (wr.alloc (.cells #[.int .i64 y.f0, .string y.f1, .int .i64 y.f2, .slice A3d y.f3.length c3d] 70)) w.heap.size (fun b => wr.heap.size < b) (.slice none 0 0) ([] : List Int) from Kd.R_nil _ _ _ _ _)
      have HRC := Aside0.mk (Kd.C_below K.out.2.1 (HREL.out.1.alloc HREL.out.1.size (.cells #[.int .i64 y.f0, .string y.f1, .int .i64 y.f2, .slice A3d y.f3.length c3d] 70)))
      have HBX := Aside0.mk (HREL.out.1.alloc HREL.out.1.size (.cells #[.int .i64 y.f0, .string y.f1, .int .i64 y.f2, .slice A3d y.f3.length c3d] 70))
      have HL8 := Aside0.mk (show (([] : List Int).length + y.f3.length) * 8 ≤ 140737488355328 from by have := K.out.2.2.2.2.2.1; simp; omega)
      have FR := Aside0.mk (show ∀ b, (wr.alloc (.cells #[.int .i64 y.f0, .string y.f1, .int .i64 y.f2, .slice A3d y.f3.length c3d] 70)).heap.size ≤ b → wr.heap.size < b from fun b hb => by simp at hb; omega)
      clear q0 q1 q2 q3 z3
      go_wp2_with (at_builtin; refine Kd.R_append_row (Value.int .u64) (0 : Int) (w0 := w) w.heap.size rfl (.const (.slice none 0 0)) (.tmp 21) 36 74 (.int .u64 0) 8 rfl under42 info60 rfl (by decide) (.slice none 0 0) [] y.f3 A3d y.f3.length c3d (ok := fun b => wr.heap.size < b) rfl rfl FR.out HO.out HRC.out HBX.out HBX.out.size HL8.out ?_)
      intro v5 w1 hr1 hb1 hg1 hat1
      obtain ⟨Av, cv, rfl⟩ := Kd.R_slice hr1
      have DB := Aside0.mk ((hg1.block wr.heap.size (by simp) (by simp [Value.ownBlock])).trans (blk_new wr (.cells #[.int .i64 y.f0, .string y.f1, .int .i64 y.f2, .slice A3d y.f3.length c3d] 70)))
      have BL := Aside0.mk (show Below wr.heap.size wr w1 from ((Below.refl wr.heap.size wr).alloc (Nat.le_refl _) (.cells #[.int .i64 y.f0, .string y.f1, .int .i64 y.f2, .slice A3d y.f3.length c3d] 70)).grown hg1 (by simp) (fun b hb => by simp [Value.ownBlock] at hb))
      have R5 := Aside0.mk (And.intro hb1 hr1)
      clear hr1 hb1 hg1 hat1 HO HRC HBX HL8 FR
      have d3 := (blk_cell DB.out 3).trans rfl
      have f3 := blk_frozen DB.out 3
      go_upto_region 8 with (fail)
      obtain ⟨X1, hX⟩ : ∃ X, X = w1.setCell ⟨wr.heap.size, 3, none⟩ (.slice Av y.f3.length cv) := ⟨_, rfl⟩
      rw [← hX]
      clear d3 f3
      have H1 := Aside0.mk (show Below wr.heap.size wr X1 ∧ X1.heap[wr.heap.size]? = some (.cells #[.int .i64 y.f0, .string y.f1, .int .i64 y.f2, .slice Av y.f3.length cv] 70 (0, 0)) ∧ (Kd.int .u64).R 74 X1 w.heap.size (fun b => wr.heap.size < b) (.slice Av y.f3.length cv) y.f3 from by
        rw [hX]
        exact ⟨BL.out.setCell (p := ⟨wr.heap.size, 3, none⟩) (Nat.le_refl _) _, blk_put DB.out 3 _ rfl, Kd.R_far R5.out.2 (p := ⟨wr.heap.size, 3, none⟩) (fun b hb => Nat.ne_of_gt hb) _⟩)
      clear hX
      have B1 := Aside0.mk (show Below w.heap.size w X1 from HREL.out.1.trans (H1.out.1.mono HREL.out.1.size))
      have MK := Aside0.mk (show k70.M X1 w.heap.size (fun b => wr.heap.size < b) y [.int .i64 y.f0, .string y.f1, .int .i64 y.f2, .slice Av y.f3.length cv] from k70_mkM X1 w.heap.size _ y H1.out.2.2)
      have RO := Aside0.mk (Kd.R_below HREL.out.2.2.2.2 H1.out.1)
      have OK2 := Aside0.mk (show ∀ b, wr.heap.size < b → w.heap.size + 1 + 1 < b ∧ some b ≠ v.ownBlock from fun b hb => ⟨Nat.lt_trans LB.out hb, some_ne_of_lt LT.out (Nat.le_of_lt hb)⟩)
      have FR2 := Aside0.mk (show ∀ b, X1.heap.size ≤ b → w.heap.size + 1 + 1 < b from fun b hb => Nat.lt_of_lt_of_le LB.out (Nat.le_trans H1.out.1.size hb))
      have HL2 := Aside0.mk (show ((ds.take k).length + 1) * 56 ≤ 140737488355328 from by have := HG.out.good.dl; simp only at this; have := List.length_take_le k ds; omega)
      have QB := Aside0.mk (blk_below HREL.out.2.2.2.1 H1.out.1)
      have q3 := (blk_cell QB.out 3).trans rfl
      have d0 := (blk_cell H1.out.2.1 0).trans rfl
      have d1 := (blk_cell H1.out.2.1 1).trans rfl
      have d2 := (blk_cell H1.out.2.1 2).trans rfl
      have d3 := (blk_cell H1.out.2.1 3).trans rfl
      go_wp2_with (at_builtin; refine Kd.R_append k70 (w0 := w) w.heap.size rfl (.tmp 25) (.tmp 27) 22 70 zDe 56 rfl under26 info44 rfl (show 0 < 4 by decide) (by decide) v (ds.take k) y [.int .i64 y.f0, .string y.f1, .int .i64 y.f2, .slice Av y.f3.length cv] (fun b => w.heap.size + 1 + 1 < b) (fun b => wr.heap.size < b) rfl rfl MK.out OK2.out FR2.out RO.out B1.out B1.out.size HL2.out ?_)
      intro v2 w2 hr2 hb2 hg2 hat2
      obtain ⟨Av2, cv2, hv2⟩ := Kd.R_slice hr2
      simp only [List.length_append, List.length_singleton, List.length_take, Nat.min_eq_left hk] at hv2
      subst hv2
      have E0 := Aside0.mk ((hg2.block w.heap.size (Nat.lt_of_lt_of_le (blk_lt HREL.out.2.1) H1.out.1.size) (NE.out _ (by omega))).trans (blk_below HREL.out.2.1 H1.out.1))
      have E1 := Aside0.mk ((hg2.block (w.heap.size + 1) (Nat.lt_of_lt_of_le (blk_lt HREL.out.2.2.1) H1.out.1.size) (NE.out _ (by omega))).trans (blk_below HREL.out.2.2.1 H1.out.1))
      have E2 := Aside0.mk ((hg2.block (w.heap.size + 1 + 1) (Nat.lt_of_lt_of_le LB.out H1.out.1.size) (NE.out _ (by omega))).trans QB.out)
      have R2 := Aside0.mk (And.intro hb2 hr2)
      clear hr2 hb2 hg2 hat2 q3 d0 d1 d2 d3
      have q3 := (blk_cell E2.out 3).trans rfl
      have y3 := blk_frozen E2.out 3
      go_wp2_with fail
      refine ⟨⟨k + 1, .slice Av2 (k + 1) cv2, by go_num, by omega, ⟨R2.out.1.setCell (p := ⟨w.heap.size + 1 + 1, 3, none⟩) (show w.heap.size ≤ w.heap.size + 1 + 1 by omega) _, (Below.heap_setCell _ _ _ _ (show w.heap.size ≠ w.heap.size + 1 + 1 by omega)).trans E0.out, (Below.heap_setCell _ _ _ _ (show w.heap.size + 1 ≠ w.heap.size + 1 + 1 by omega)).trans E1.out, blk_put E2.out 3 _ rfl, ?_⟩⟩, by simp [intOf]; omega⟩
      rw [T.out]
      exact Kd.R_far R2.out.2 (p := ⟨w.heap.size + 1 + 1, 3, none⟩) (fun b hb => Nat.ne_of_gt hb) _
    · have hk2 : k = ds.length := by omega
      have HR := Aside0.mk (show k70.R 70 wr w.heap.size (fun b => w.heap.size + 1 + 1 < b) v ds from by have h := HREL.out.2.2.2.2; rw [hk2, List.take_length] at h; exact h)
      obtain ⟨Av, cv, rfl⟩ := Kd.R_slice HR.out
      have LV := Aside0.mk (show ds.length ≤ cv from by obtain ⟨A', c', e', l', _⟩ := Kd.R_reads HR.out; injection e' with _ _ e3; rw [e3]; exact l')
      have z4 : wr.cell? ⟨w.heap.size, 4, none⟩ = some (.slice A4 bd.length c4) := (blk_cell HREL.out.2.1 4).trans rfl
      have CB := Aside0.mk (ownB_calls _ bd (Nat.le_refl _) HG.out.good.bl ((Ot.goodTs_iff bd).2 HG.out.good.bd) A4 c4 wr (Kd.C_below PAt.out.hb HREL.out.1) PAt.out.hlb)
      clear hk2
      go_wp2_with fail
      refine CB.out.mono ?_
      rintro _ w9 ⟨v9, rfl, hR9, hb9⟩
      obtain ⟨Av9, cv9, rfl⟩ := Kd.R_slice hR9
      have H9 := Aside0.mk (And.intro hb9 hR9)
      clear hb9 hR9 z3 z4
      have QB := Aside0.mk (blk_below HREL.out.2.2.2.1 H9.out.1)
      have q4 := (blk_cell QB.out 4).trans rfl
      have y4 := blk_frozen QB.out 4
      go_upto_region 10 with (fail)
      obtain ⟨X3, hX⟩ : ∃ X, X = w9.setCell ⟨w.heap.size + 1 + 1, 4, none⟩ (.slice Av9 bd.length cv9) := ⟨_, rfl⟩
      rw [← hX]
      clear q4 y4
      have H3 := Aside0.mk (show Below w.heap.size w X3 ∧ X3.heap[w.heap.size + 1]? = some (.cells #[.string ⟨#[]⟩, .int .i64 0, .int .i64 0, .slice none 0 0, .slice none 0 0] 25 (0, 0)) ∧ X3.heap[w.heap.size + 1 + 1]? = some (.cells #[.string nm, .int .i64 wd, .int .i64 ln, .slice Av ds.length cv, .slice Av9 bd.length cv9] 25 (0, 0)) ∧ k70.R 70 X3 w.heap.size (fun b => w.heap.size + 1 + 1 < b) (.slice Av ds.length cv) ds ∧ k119.R 119 X3 w.heap.size (fun b => w.heap.size + 1 + 1 < b) (.slice Av9 bd.length cv9) bd from by
        rw [hX]
        refine ⟨(HREL.out.1.trans (H9.out.1.mono HREL.out.1.size)).setCell (p := ⟨w.heap.size + 1 + 1, 4, none⟩) (show w.heap.size ≤ w.heap.size + 1 + 1 by omega) _, (Below.heap_setCell _ _ _ _ (show w.heap.size + 1 ≠ w.heap.size + 1 + 1 by omega)).trans (blk_below HREL.out.2.2.1 H9.out.1), blk_put QB.out 4 _ rfl, ?_⟩
        exact ⟨Kd.R_far (Kd.R_below HR.out H9.out.1) (p := ⟨w.heap.size + 1 + 1, 4, none⟩) (fun b hb => Nat.ne_of_gt hb) _, Kd.R_far (Kd.R_lower (Kd.R_mono (Kd.R_bound H9.out.2) (fun b hb => Nat.lt_of_lt_of_le LB.out hb.2.1)) HREL.out.1.size) (p := ⟨w.heap.size + 1 + 1, 4, none⟩) (fun b hb => Nat.ne_of_gt hb) _⟩)
      clear hX
      have r0 : X3.cell? ⟨w.heap.size + 1, 0, none⟩ = some (.string ⟨#[]⟩) := (blk_cell H3.out.2.1 0).trans rfl
      have f0 := blk_frozen H3.out.2.1 0
      have s0 : X3.cell? ⟨w.heap.size + 1 + 1, 0, none⟩ = some (.string nm) := (blk_cell H3.out.2.2.1 0).trans rfl
      have r1 : X3.cell? ⟨w.heap.size + 1, 1, none⟩ = some (.int .i64 0) := (blk_cell H3.out.2.1 1).trans rfl
      have f1 := blk_frozen H3.out.2.1 1
      have s1 : X3.cell? ⟨w.heap.size + 1 + 1, 1, none⟩ = some (.int .i64 wd) := (blk_cell H3.out.2.2.1 1).trans rfl
      have r2 : X3.cell? ⟨w.heap.size + 1, 2, none⟩ = some (.int .i64 0) := (blk_cell H3.out.2.1 2).trans rfl
      have f2 := blk_frozen H3.out.2.1 2
      have s2 : X3.cell? ⟨w.heap.size + 1 + 1, 2, none⟩ = some (.int .i64 ln) := (blk_cell H3.out.2.2.1 2).trans rfl
      have r3 : X3.cell? ⟨w.heap.size + 1, 3, none⟩ = some (.slice none 0 0) := (blk_cell H3.out.2.1 3).trans rfl
      have f3 := blk_frozen H3.out.2.1 3
      have s3 : X3.cell? ⟨w.heap.size + 1 + 1, 3, none⟩ = some (.slice Av ds.length cv) := (blk_cell H3.out.2.2.1 3).trans rfl
      have r4 : X3.cell? ⟨w.heap.size + 1, 4, none⟩ = some (.slice none 0 0) := (blk_cell H3.out.2.1 4).trans rfl
      have f4 := blk_frozen H3.out.2.1 4
      have s4 : X3.cell? ⟨w.heap.size + 1 + 1, 4, none⟩ = some (.slice Av9 bd.length cv9) := (blk_cell H3.out.2.2.1 4).trans rfl
      go_wp2_with fail
      refine bodyPost_ret (results_cell_row rfl _ _ (w.heap.size + 1) 25 #[.string nm, .int .i64 wd, .int .i64 ln, .slice Av ds.length cv, .slice Av9 bd.length cv9] (0, 0) _ rfl (blk_put (blk_put (blk_put (blk_put (blk_put H3.out.2.1 0 _ rfl) 1 _ rfl) 2 _ rfl) 3 _ rfl) 4 _ rfl) Tryz.underlying25 rfl (by kernel_rfl)) rfl ?_
      refine ⟨Av, cv, Av9, cv9, rfl, ?_, ?_⟩
      · refine ⟨Kd.R_mono (ok := fun b => w.heap.size + 1 + 1 < b) ?_ (fun _ _ => trivial), Kd.R_mono (ok := fun b => w.heap.size + 1 + 1 < b) ?_ (fun _ _ => trivial)⟩
        · exact (Kd.R_far (Kd.R_far (Kd.R_far (Kd.R_far (Kd.R_far H3.out.2.2.2.1 (p := ⟨w.heap.size + 1, 0, none⟩) (fun b hb => by show b ≠ w.heap.size + 1; omega) _) (p := ⟨w.heap.size + 1, 1, none⟩) (fun b hb => by show b ≠ w.heap.size + 1; omega) _) (p := ⟨w.heap.size + 1, 2, none⟩) (fun b hb => by show b ≠ w.heap.size + 1; omega) _) (p := ⟨w.heap.size + 1, 3, none⟩) (fun b hb => by show b ≠ w.heap.size + 1; omega) _) (p := ⟨w.heap.size + 1, 4, none⟩) (fun b hb => by show b ≠ w.heap.size + 1; omega) _)
        · exact (Kd.R_far (Kd.R_far (Kd.R_far (Kd.R_far (Kd.R_far H3.out.2.2.2.2 (p := ⟨w.heap.size + 1, 0, none⟩) (fun b hb => by show b ≠ w.heap.size + 1; omega) _) (p := ⟨w.heap.size + 1, 1, none⟩) (fun b hb => by show b ≠ w.heap.size + 1; omega) _) (p := ⟨w.heap.size + 1, 2, none⟩) (fun b hb => by show b ≠ w.heap.size + 1; omega) _) (p := ⟨w.heap.size + 1, 3, none⟩) (fun b hb => by show b ≠ w.heap.size + 1; omega) _) (p := ⟨w.heap.size + 1, 4, none⟩) (fun b hb => by show b ≠ w.heap.size + 1; omega) _)
      · exact ((((H3.out.1.setCell (p := ⟨w.heap.size + 1, 0, none⟩) (show w.heap.size ≤ w.heap.size + 1 by omega) _).setCell (p := ⟨w.heap.size + 1, 1, none⟩) (show w.heap.size ≤ w.heap.size + 1 by omega) _).setCell (p := ⟨w.heap.size + 1, 2, none⟩) (show w.heap.size ≤ w.heap.size + 1 by omega) _).setCell (p := ⟨w.heap.size + 1, 3, none⟩) (show w.heap.size ≤ w.heap.size + 1 by omega) _).setCell (p := ⟨w.heap.size + 1, 4, none⟩) (show w.heap.size ≤ w.heap.size + 1 by omega) _
end Go.Proofs.YtfigjpehecibeaaGreat.L
end
section
namespace Go.Proofs.YtfigjpehecibeaaGreat.L
open Go.RowKit Go.Proofs.YtfigjpehecibeaaGreatW.PrintWords Go.Proofs.YtfigjpehecibeaaGreatW.PrintLast Go.Proofs.YtfigjpehecibeaaGreatW.PrintMore Go.Proofs.YtfigjpehecibeaaGreat.Gr
set_option linter.unusedVariables false
set_option linter.unusedSimpArgs false
attribute [local go_sem] G.cell
set_option maxHeartbeats 4000000 in
set_option maxRecDepth 100000 in
theorem own_calls (nm : ByteArray) (wd ln : Int) (ds : List S70) (bd : List S119) (A3 : Option Addr) (c3 : Nat) (A4 : Option Addr) (c4 : Nat) (w : World) (hp : ProgAt w ds bd A3 c3 A4 c4) (hg : PGood nm wd ln ds bd) :
    Calls Tryz.prog 16 #[.agg #[.string nm, .int .i64 wd, .int .i64 ln, .slice A3 ds.length c3, .slice A4 bd.length c4]] w fun e w' => ∃ A3' c3' A4' c4', e = .returned (.agg #[.string nm, .int .i64 wd, .int .i64 ln, .slice A3' ds.length c3', .slice A4' bd.length c4']) ∧ ProgAt w' ds bd A3' c3' A4' c4' ∧ Below w.heap.size w w' := by
  have PAt := Aside0.mk hp
  have HG := Aside0.mk hg
  clear hp hg
  go_enter Tryz.func16, Tryz.ntmps16
  go_upto_region 1 with (fail)
  obtain ⟨X, hX⟩ : ∃ X, X = (w.alloc (.cells #[.string nm, .int .i64 wd, .int .i64 ln, .slice A3 ds.length c3, .slice A4 bd.length c4] 25)).alloc (.cells #[.string ⟨#[]⟩, .int .i64 0, .int .i64 0, .slice none 0 0, .slice none 0 0] 25) := ⟨_, rfl⟩
  rw [← hX]
  have KX := Aside0.mk (show Below w.heap.size w X ∧ X.heap[w.heap.size]? = some (.cells #[.string nm, .int .i64 wd, .int .i64 ln, .slice A3 ds.length c3, .slice A4 bd.length c4] 25 (0, 0)) ∧ X.heap[w.heap.size + 1]? = some (.cells #[.string ⟨#[]⟩, .int .i64 0, .int .i64 0, .slice none 0 0, .slice none 0 0] 25 (0, 0)) from by
    rw [hX]
    exact ⟨((Below.refl _ _).alloc (Nat.le_refl _) _).alloc (by simp) _, blk_alloc (blk_new _ _) _, by simpa using blk_new (w.alloc (.cells #[.string nm, .int .i64 wd, .int .i64 ln, .slice A3 ds.length c3, .slice A4 bd.length c4] 25)) (.cells #[.string ⟨#[]⟩, .int .i64 0, .int .i64 0, .slice none 0 0, .slice none 0 0] 25)⟩)
  clear hX
  have OUT := Aside0.mk (show ∀ g : G X, Below w.heap.size w g.W from fun g => KX.out.1.trans (g.below.mono KX.out.1.size))
  refine wp_grown0 ?_
  intro gg
  have p0 : ∀ g : G X, g.W.cell? ⟨w.heap.size, 0, none⟩ = some (.string nm) := fun g => (blk_cell (blk_below KX.out.2.1 g.below) 0).trans rfl
  have p1 : ∀ g : G X, g.W.cell? ⟨w.heap.size, 1, none⟩ = some (.int .i64 wd) := fun g => (blk_cell (blk_below KX.out.2.1 g.below) 1).trans rfl
  have p2 : ∀ g : G X, g.W.cell? ⟨w.heap.size, 2, none⟩ = some (.int .i64 ln) := fun g => (blk_cell (blk_below KX.out.2.1 g.below) 2).trans rfl
  have p3 : ∀ g : G X, g.W.cell? ⟨w.heap.size, 3, none⟩ = some (.slice A3 ds.length c3) := fun g => (blk_cell (blk_below KX.out.2.1 g.below) 3).trans rfl
  have p4 : ∀ g : G X, g.W.cell? ⟨w.heap.size, 4, none⟩ = some (.slice A4 bd.length c4) := fun g => (blk_cell (blk_below KX.out.2.1 g.below) 4).trans rfl
  go_wp2_with fail
  refine (great_calls nm wd ln ds bd A3 c3 A4 c4 gg.W (PAt.out.below (OUT.out gg))).mono ?_
  rintro _ w9 ⟨⟨b, rfl⟩, hb⟩
  obtain ⟨gg, rfl⟩ : ∃ g : G X, w9 = g.W := ⟨mkG (gg.below.trans (hb.mono gg.below.size)), rfl⟩
  clear hb
  rcases bcases b with rfl | rfl
  · obtain ⟨w9, hw9⟩ : ∃ w9, w9 = gg.W := ⟨_, rfl⟩
    have HZ := Aside0.mk (show w9.heap[w.heap.size + 1]? = some (.cells #[.string ⟨#[]⟩, .int .i64 0, .int .i64 0, .slice none 0 0, .slice none 0 0] 25 (0, 0)) from hw9 ▸ blk_below KX.out.2.2 gg.below)
    have q0 := hw9 ▸ p0 gg
    have q1 := hw9 ▸ p1 gg
    have q2 := hw9 ▸ p2 gg
    have q3 := hw9 ▸ p3 gg
    have q4 := hw9 ▸ p4 gg
    have HO := Aside0.mk (show Below w.heap.size w w9 from hw9 ▸ OUT.out gg)
    rw [← hw9]
    clear hw9
    have r0 : w9.cell? ⟨w.heap.size + 1, 0, none⟩ = some (.string ⟨#[]⟩) := (blk_cell HZ.out 0).trans rfl
    have f0 := blk_frozen HZ.out 0
    have r1 : w9.cell? ⟨w.heap.size + 1, 1, none⟩ = some (.int .i64 0) := (blk_cell HZ.out 1).trans rfl
    have f1 := blk_frozen HZ.out 1
    have r2 : w9.cell? ⟨w.heap.size + 1, 2, none⟩ = some (.int .i64 0) := (blk_cell HZ.out 2).trans rfl
    have f2 := blk_frozen HZ.out 2
    have r3 : w9.cell? ⟨w.heap.size + 1, 3, none⟩ = some (.slice none 0 0) := (blk_cell HZ.out 3).trans rfl
    have f3 := blk_frozen HZ.out 3
    have r4 : w9.cell? ⟨w.heap.size + 1, 4, none⟩ = some (.slice none 0 0) := (blk_cell HZ.out 4).trans rfl
    have f4 := blk_frozen HZ.out 4
    go_wp2_with fail
    refine bodyPost_ret (results_cell_row rfl _ _ (w.heap.size + 1) 25 #[.string nm, .int .i64 wd, .int .i64 ln, .slice A3 ds.length c3, .slice A4 bd.length c4] (0, 0) _ rfl ((blk_put (blk_put (blk_put (blk_put (blk_put HZ.out 0 _ rfl) 1 _ rfl) 2 _ rfl) 3 _ rfl) 4 _ rfl)) Tryz.underlying25 rfl (by kernel_rfl)) rfl ?_
    have HB := (((((HO.out.setCell (p := ⟨w.heap.size + 1, 0, none⟩) (show w.heap.size ≤ w.heap.size + 1 by omega) (.string nm)).setCell (p := ⟨w.heap.size + 1, 1, none⟩) (show w.heap.size ≤ w.heap.size + 1 by omega) (.int .i64 wd)).setCell (p := ⟨w.heap.size + 1, 2, none⟩) (show w.heap.size ≤ w.heap.size + 1 by omega) (.int .i64 ln)).setCell (p := ⟨w.heap.size + 1, 3, none⟩) (show w.heap.size ≤ w.heap.size + 1 by omega) (.slice A3 ds.length c3)).setCell (p := ⟨w.heap.size + 1, 4, none⟩) (show w.heap.size ≤ w.heap.size + 1 by omega) (.slice A4 bd.length c4))
    exact ⟨A3, c3, A4, c4, rfl, PAt.out.below HB, HB⟩
  · go_wp2_with fail
    refine (ownP_calls nm wd ln ds bd A3 c3 A4 c4 gg.W (PAt.out.below (OUT.out gg)) HG.out).mono ?_
    rintro _ w9 ⟨A3', c3', A4', c4', rfl, hR, hb⟩
    have HR := Aside0.mk hR
    have HS := Aside0.mk (show w.heap.size + 1 < gg.W.heap.size from blk_lt (blk_below KX.out.2.2 gg.below))
    have HZ := Aside0.mk (blk_below (blk_below KX.out.2.2 gg.below) hb)
    have HO := Aside0.mk (show Below w.heap.size w w9 from (OUT.out gg).trans (hb.mono (OUT.out gg).size))
    clear hR hb
    have r0 : w9.cell? ⟨w.heap.size + 1, 0, none⟩ = some (.string ⟨#[]⟩) := (blk_cell HZ.out 0).trans rfl
    have f0 := blk_frozen HZ.out 0
    have r1 : w9.cell? ⟨w.heap.size + 1, 1, none⟩ = some (.int .i64 0) := (blk_cell HZ.out 1).trans rfl
    have f1 := blk_frozen HZ.out 1
    have r2 : w9.cell? ⟨w.heap.size + 1, 2, none⟩ = some (.int .i64 0) := (blk_cell HZ.out 2).trans rfl
    have f2 := blk_frozen HZ.out 2
    have r3 : w9.cell? ⟨w.heap.size + 1, 3, none⟩ = some (.slice none 0 0) := (blk_cell HZ.out 3).trans rfl
    have f3 := blk_frozen HZ.out 3
    have r4 : w9.cell? ⟨w.heap.size + 1, 4, none⟩ = some (.slice none 0 0) := (blk_cell HZ.out 4).trans rfl
    have f4 := blk_frozen HZ.out 4
    go_wp2_with fail
    refine bodyPost_ret (results_cell_row rfl _ _ (w.heap.size + 1) 25 #[.string nm, .int .i64 wd, .int .i64 ln, .slice A3' ds.length c3', .slice A4' bd.length c4'] (0, 0) _ rfl ((blk_put (blk_put (blk_put (blk_put (blk_put HZ.out 0 _ rfl) 1 _ rfl) 2 _ rfl) 3 _ rfl) 4 _ rfl)) Tryz.underlying25 rfl (by kernel_rfl)) rfl ?_
    have HB := (((((HO.out.setCell (p := ⟨w.heap.size + 1, 0, none⟩) (show w.heap.size ≤ w.heap.size + 1 by omega) (.string nm)).setCell (p := ⟨w.heap.size + 1, 1, none⟩) (show w.heap.size ≤ w.heap.size + 1 by omega) (.int .i64 wd)).setCell (p := ⟨w.heap.size + 1, 2, none⟩) (show w.heap.size ≤ w.heap.size + 1 by omega) (.int .i64 ln)).setCell (p := ⟨w.heap.size + 1, 3, none⟩) (show w.heap.size ≤ w.heap.size + 1 by omega) (.slice A3' ds.length c3')).setCell (p := ⟨w.heap.size + 1, 4, none⟩) (show w.heap.size ≤ w.heap.size + 1 by omega) (.slice A4' bd.length c4'))
    have hs := HS.out
    refine ⟨A3', c3', A4', c4', rfl, prog_of_R (base := gg.W.heap.size) (ok := fun b => gg.W.heap.size ≤ b) ?_ ?_, HB⟩
    · exact (Kd.R_far (Kd.R_far (Kd.R_far (Kd.R_far (Kd.R_far (Kd.R_mono (Kd.R_bound HR.out.1) (fun b hb => hb.2.1)) (p := ⟨w.heap.size + 1, 0, none⟩) (fun b hb => by show b ≠ w.heap.size + 1; omega) _) (p := ⟨w.heap.size + 1, 1, none⟩) (fun b hb => by show b ≠ w.heap.size + 1; omega) _) (p := ⟨w.heap.size + 1, 2, none⟩) (fun b hb => by show b ≠ w.heap.size + 1; omega) _) (p := ⟨w.heap.size + 1, 3, none⟩) (fun b hb => by show b ≠ w.heap.size + 1; omega) _) (p := ⟨w.heap.size + 1, 4, none⟩) (fun b hb => by show b ≠ w.heap.size + 1; omega) _)
    · exact (Kd.R_far (Kd.R_far (Kd.R_far (Kd.R_far (Kd.R_far (Kd.R_mono (Kd.R_bound HR.out.2) (fun b hb => hb.2.1)) (p := ⟨w.heap.size + 1, 0, none⟩) (fun b hb => by show b ≠ w.heap.size + 1; omega) _) (p := ⟨w.heap.size + 1, 1, none⟩) (fun b hb => by show b ≠ w.heap.size + 1; omega) _) (p := ⟨w.heap.size + 1, 2, none⟩) (fun b hb => by show b ≠ w.heap.size + 1; omega) _) (p := ⟨w.heap.size + 1, 3, none⟩) (fun b hb => by show b ≠ w.heap.size + 1; omega) _) (p := ⟨w.heap.size + 1, 4, none⟩) (fun b hb => by show b ≠ w.heap.size + 1; omega) _)
end Go.Proofs.YtfigjpehecibeaaGreat.L
end
section
namespace Go.Proofs.YtfigjpehecibeaaGreat.L
open Go.RowKit Go.Proofs.YtfigjpehecibeaaGreatW.PrintWords Go.Proofs.YtfigjpehecibeaaGreatW.PrintLast Go.Proofs.YtfigjpehecibeaaGreatW.PrintMore Go.Proofs.YtfigjpehecibeaaGreat.Gr
set_option linter.unusedVariables false
set_option linter.unusedSimpArgs false
open Classical in
noncomputable def wf_Check.f (nm : ByteArray) (wd ln : Int) (ds : List S70) (bd : List S119) : Option Int := if PGood nm wd ln ds bd then some (faultS nm wd ln ds bd).e else none
theorem wf_Check.calls (a0_0 : ByteArray) (a0_1 : Int) (a0_2 : Int) (A0_3 : Option Addr) (c0_3 : Nat) (l0_3 : List (S70)) (A0_4 : Option Addr) (c0_4 : Nat) (l0_4 : List (S119)) (r : Int) (w : World) (hr0_3 : Kd.C k70 w A0_3 l0_3.length l0_3) (hc0_3 : l0_3.length ≤ c0_3) (hr0_4 : Kd.C k119 w A0_4 l0_4.length l0_4) (hc0_4 : l0_4.length ≤ c0_4) (h : wf_Check.f a0_0 a0_1 a0_2 l0_3 l0_4 = some r) :
    Calls Tryz.prog 60 #[.agg #[.string a0_0, .int .i64 a0_1, .int .i64 a0_2, .slice A0_3 l0_3.length c0_3, .slice A0_4 l0_4.length c0_4]] w fun e w' => e = .returned (.int .i64 r) ∧ Below w.heap.size w w' := by
  unfold wf_Check.f at h
  split at h
  · rename_i hg
    injection h with h
    subst h
    exact check_calls a0_0 a0_1 a0_2 l0_3 l0_4 A0_3 c0_3 A0_4 c0_4 w ⟨hr0_3, hc0_3, hr0_4, hc0_4⟩ hg _ rfl
  · cases h
noncomputable abbrev cadenceref16_Check.f := wf_Check.f
theorem cadenceref16_Check.calls (a0_0 : ByteArray) (a0_1 : Int) (a0_2 : Int) (A0_3 : Option Addr) (c0_3 : Nat) (l0_3 : List (S70)) (A0_4 : Option Addr) (c0_4 : Nat) (l0_4 : List (S119)) (r : Int) (w : World) (hr0_3 : Kd.C k70 w A0_3 l0_3.length l0_3) (hc0_3 : l0_3.length ≤ c0_3) (hr0_4 : Kd.C k119 w A0_4 l0_4.length l0_4) (hc0_4 : l0_4.length ≤ c0_4) (h : cadenceref16_Check.f a0_0 a0_1 a0_2 l0_3 l0_4 = some r) :
    Calls Tryz.prog 50 #[.agg #[.string a0_0, .int .i64 a0_1, .int .i64 a0_2, .slice A0_3 l0_3.length c0_3, .slice A0_4 l0_4.length c0_4]] w fun e w' => e = .returned (.int .i64 r) ∧ Below w.heap.size w w' := by
  unfold cadenceref16_Check.f wf_Check.f at h
  split at h
  · rename_i hg
    injection h with h
    subst h
    exact refCheck_calls a0_0 a0_1 a0_2 l0_3 l0_4 A0_3 c0_3 A0_4 c0_4 w ⟨hr0_3, hc0_3, hr0_4, hc0_4⟩ hg _ rfl
  · cases h
theorem info4 : (Tryz.prog.info? 4).map (fun i => (i.zero, i.size, i.bytes)) = some (some (.bool false), 1, 1) := by kernel_rfl
def slices_Repeat_bool_bool.f : List Bool → Int → Option (List Bool)
  | [b], n => if 1 ≤ n ∧ n ≤ 256 then some (List.replicate n.toNat b) else none
  | _, _ => none
theorem slices_Repeat_bool_bool.calls (A0 : Option Addr) (c0 : Nat) (l0 : List Bool) (a1 : Int) (r : List Bool) (w : World) (hr0 : Kd.C Kd.bool w A0 l0.length l0) (hc0 : l0.length ≤ c0) (h : slices_Repeat_bool_bool.f l0 a1 = some r) :
    Calls Tryz.prog 62 #[.slice A0 l0.length c0, .int .i64 a1] w fun e w' => ∃ v, e = .returned v ∧ Kd.R Kd.bool 4 w' w.heap.size (fun _ => True) v r ∧ Below w.heap.size w w' := by
  obtain ⟨b, rfl⟩ : ∃ b, l0 = [b] := by
    rcases l0 with _ | ⟨b, _ | ⟨b2, l⟩⟩
    · cases h
    · exact ⟨b, rfl⟩
    · cases h
  replace h : (if 1 ≤ a1 ∧ a1 ≤ 256 then some (List.replicate a1.toNat b) else none) = some r := h
  by_cases hn : 1 ≤ a1 ∧ a1 ≤ 256
  · rw [if_pos hn] at h
    injection h with h
    subst h
    obtain ⟨n, rfl⟩ := Int.eq_ofNat_of_zero_le (show 0 ≤ a1 by omega)
    exact repeat_calls b n (by omega) (by omega) A0 c0 w hr0 hc0
  · rw [if_neg hn] at h
    cases h
end Go.Proofs.YtfigjpehecibeaaGreat.L
end
