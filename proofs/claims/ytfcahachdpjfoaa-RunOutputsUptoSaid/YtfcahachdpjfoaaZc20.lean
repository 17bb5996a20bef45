/- Texts joined by a program of mine: Te Tb Ur Uv Sk. -/
import Derived.Outline
import Derived.Test.YtfcahachdpjfoaaZc8
import Derived.Test.YtfcahachdpjfoaaZc13
import Derived.Test.YtfcahachdpjfoaaZc14
import Derived.Test.YtfcahachdpjfoaaZc19
section
namespace Go.Proofs.Ytfcahachdpjfoaa.L
open Go.RowKit Go.Proofs.YtfcahachdpjfoaaW.PrintWords Go.Proofs.YtfcahachdpjfoaaW.PrintLast Go.Proofs.YtfcahachdpjfoaaW.PrintMore Go.Proofs.Ytfcahachdpjfoaa.Gr
set_option linter.unusedVariables false
set_option linter.unusedSimpArgs false
attribute [local go_sem] G.cell
def OwnBC (l : List S77) : Prop := ∀ (A : Option Addr) (c : Nat) (w : World), k77.C w A l.length l → l.length ≤ c →
  Calls Try.prog 86 #[.slice A l.length c] w fun r w' => ∃ v, r = .returned v ∧ k77.R 77 w' w.heap.size (fun _ => True) v l ∧ Below w.heap.size w w'
set_option maxHeartbeats 4000000 in
set_option maxRecDepth 100000 in
theorem ownB_walk (l : List S77) (hn : l.length * 200 ≤ 140737488351232) (hg : ∀ x ∈ l, Ot.goodT x) (ih : ∀ x ∈ l, OwnBC x.f6 ∧ OwnBC x.f7) : OwnBC l := by
  intro A c w hc hl
  have IH := Aside0.mk ih
  have HC := Aside0.mk hc
  have HN := Aside0.mk hn
  have HG := Aside0.mk hg
  have hlm := hc.2.1
  clear ih hc hg hn
  go_enter Try.func86, Try.ntmps86
  go_wp2_with fail
  go_loopw [4, 3] (fun i v W => ∃ (k : Nat) (vo : Value), i = .int .i64 k ∧ vo = v ∧ k ≤ l.length ∧ Aside0 (Below w.heap.size w W ∧ k77.R 77 W w.heap.size (fun _ => True) vo (l.take k))) (fun i _ _ => l.length - (intOf i).toNat)
  case atStart => exact ⟨0, _, rfl, rfl, Nat.zero_le _, ⟨Below.refl _ _, by rw [List.take_zero]; exact Kd.R_nil _ _ _ _ _⟩⟩
  case round =>
    obtain ⟨k, vo, rfl, rfl, hk, HREL⟩ := hrel
    by_cases hlt : k < l.length
    · obtain ⟨ad, A5, c5, A9, c9, A12, c12, A13, c13, e1, q0, q1, q2, q3, q4, q5, q6, q7, q8, q9, q10, q11, q12, q13, l5, g5, l9, g9, l12, g12, l13, g13⟩ := at_T77 HC.out (k : Int) (Int.natCast_nonneg _) (by omega)
      cases e1
      rw [Int.toNat_natCast] at q0 q1 q2 q3 q4 q5 q6 q7 q8 q9 q10 q11 q12 q13
      replace q0 := held_in HREL.out.1 q0
      replace q1 := held_in HREL.out.1 q1
      replace q2 := held_in HREL.out.1 q2
      replace q3 := held_in HREL.out.1 q3
      replace q4 := held_in HREL.out.1 q4
      replace q5 := held_in HREL.out.1 q5
      replace q6 := held_in HREL.out.1 q6
      replace q7 := held_in HREL.out.1 q7
      replace q8 := held_in HREL.out.1 q8
      replace q9 := held_in HREL.out.1 q9
      replace q10 := held_in HREL.out.1 q10
      replace q11 := held_in HREL.out.1 q11
      replace q12 := held_in HREL.out.1 q12
      replace q13 := held_in HREL.out.1 q13
      have hi1 : (k : Int) < (l.length : Int) := by omega
      have K := Aside0.mk (And.intro l5 (And.intro g5 (And.intro l9 (And.intro g9 (And.intro l12 (And.intro g12 (And.intro l13 g13)))))))
      clear l5 g5 l9 g9 l12 g12 l13 g13
      have IH1 := Aside0.mk (IH.out _ (rd77_mem hlt))
      have GT := Aside0.mk (HG.out _ (rd77_mem hlt))
      have T := Aside0.mk (take_rd77 hlt)
      generalize rd_T77 l (k : Int) = y at *
      have GE := Aside0.mk (show Ot.goodE y.f2 ∧ Ot.goodE y.f3 from by obtain ⟨a, s, e, f, lo, hi, th, el⟩ := y; have h := GT.out; rw [Ot.goodT] at h; exact ⟨h.2.2.1, h.2.2.2.1⟩)
      have C5 := fun W (h : Below w.heap.size w W) => ownE_calls _ y.f2 (Nat.le_refl _) GE.out.1 A5 c5 W (Kd.C_below K.out.2.1 h) K.out.1
      have C9 := fun W (h : Below w.heap.size w W) => ownE_calls _ y.f3 (Nat.le_refl _) GE.out.2 A9 c9 W (Kd.C_below K.out.2.2.2.1 h) K.out.2.2.1
      have C12 := fun W (h : Below w.heap.size w W) => IH1.out.1 A12 c12 W (Kd.C_below K.out.2.2.2.2.2.1 h) K.out.2.2.2.2.1
      have C13 := fun W (h : Below w.heap.size w W) => IH1.out.2 A13 c13 W (Kd.C_below K.out.2.2.2.2.2.2.2 h) K.out.2.2.2.2.2.2.1
      have CS := Aside0.mk (And.intro C5 (And.intro C9 (And.intro C12 C13)))
      clear C5 C9 C12 C13
      go_upto_region 6 with (fail)
      · obtain ⟨wc, hwc⟩ : ∃ wc, wc = wr.alloc (.cells #[.int .i64 y.f0, .string y.f1, .int .i64 y.f2.f0, .int .u64 y.f2.f1, .string y.f2.f2, .slice A5 y.f2.f3.length c5, .int .i64 y.f3.f0, .int .u64 y.f3.f1, .string y.f3.f2, .slice A9 y.f3.f3.length c9, .int .u64 y.f4, .int .u64 y.f5, .slice A12 y.f6.length c12, .slice A13 y.f7.length c13] 77) := ⟨_, rfl⟩
        rw [← hwc]
        clear q0 q1 q2 q3 q4 q5 q6 q7 q8 q9 q10 q11 q12 q13
        have B0 := Aside0.mk (HREL.out.1)
        have hbk : wc.heap[wr.heap.size]? = some (.cells #[.int .i64 y.f0, .string y.f1, .int .i64 y.f2.f0, .int .u64 y.f2.f1, .string y.f2.f2, .slice A5 y.f2.f3.length c5, .int .i64 y.f3.f0, .int .u64 y.f3.f1, .string y.f3.f2, .slice A9 y.f3.f3.length c9, .int .u64 y.f4, .int .u64 y.f5, .slice A12 y.f6.length c12, .slice A13 y.f7.length c13] 77 (0, 0)) := hwc ▸ blk_new wr _
        have hbl : Below wr.heap.size wr wc := hwc ▸ (Below.refl _ _).alloc (Nat.le_refl _) _
        clear hwc
        have HRO := Aside0.mk (Kd.R_below HREL.out.2 hbl)
        have OB := Aside0.mk (show ∀ b, vo.ownBlock = some b → b < wr.heap.size from by obtain ⟨_, inner, ho, _⟩ := HREL.out.2; exact fun b hb => own_lt ho b hb)
        have KB := Aside0.mk hbk
        have BL := Aside0.mk hbl
        clear hbk hbl
        refine wp_grown0 ?_
        intro gg
        have z2 : ∀ g : G wc, g.W.cell? ⟨wr.heap.size, 2, none⟩ = some (.int .i64 y.f2.f0) := fun g => (blk_cell (blk_below KB.out g.below) 2).trans rfl
        have f2 : ∀ g : G wc, g.W.frozen? ⟨wr.heap.size, 2, none⟩ = false := fun g => blk_frozen (blk_below KB.out g.below) 2
        have z3 : ∀ g : G wc, g.W.cell? ⟨wr.heap.size, 3, none⟩ = some (.int .u64 y.f2.f1) := fun g => (blk_cell (blk_below KB.out g.below) 3).trans rfl
        have f3 : ∀ g : G wc, g.W.frozen? ⟨wr.heap.size, 3, none⟩ = false := fun g => blk_frozen (blk_below KB.out g.below) 3
        have z4 : ∀ g : G wc, g.W.cell? ⟨wr.heap.size, 4, none⟩ = some (.string y.f2.f2) := fun g => (blk_cell (blk_below KB.out g.below) 4).trans rfl
        have f4 : ∀ g : G wc, g.W.frozen? ⟨wr.heap.size, 4, none⟩ = false := fun g => blk_frozen (blk_below KB.out g.below) 4
        have z5 : ∀ g : G wc, g.W.cell? ⟨wr.heap.size, 5, none⟩ = some (.slice A5 y.f2.f3.length c5) := fun g => (blk_cell (blk_below KB.out g.below) 5).trans rfl
        have f5 : ∀ g : G wc, g.W.frozen? ⟨wr.heap.size, 5, none⟩ = false := fun g => blk_frozen (blk_below KB.out g.below) 5
        have WB : ∀ g : G wc, Below w.heap.size w g.W := fun g => (B0.out.trans (BL.out.mono B0.out.size)).trans (g.below.mono (B0.out.trans (BL.out.mono B0.out.size)).size)
        go_upto_region 7 with (go_at_call 100; refine (CS.out.1 gg.W (WB gg)).mono ?_; rintro _ w9 ⟨v9, rfl, hR, hb⟩; obtain ⟨Av5, cv5, rfl⟩ := Kd.R_slice hR; have HR5 := Aside0.mk (And.intro hR hb); clear hR hb; obtain ⟨g9, hg9⟩ : ∃ g : G wc, g.W = w9 := ⟨mkG (gg.below.trans (HR5.out.2.mono gg.below.size)), rfl⟩; subst hg9)
        clear z2 f2 z3 f3 z4 f4 z5 f5
        obtain ⟨X5, hX⟩ : ∃ X, X = ((((g9.W.setCell ⟨wr.heap.size, 2, none⟩ (.int .i64 y.f2.f0)).setCell ⟨wr.heap.size, 3, none⟩ (.int .u64 y.f2.f1)).setCell ⟨wr.heap.size, 4, none⟩ (.string y.f2.f2)).setCell ⟨wr.heap.size, 5, none⟩ (.slice Av5 y.f2.f3.length cv5)) := ⟨_, rfl⟩
        rw [← hX]
        have KB2 := Aside0.mk (show X5.heap[wr.heap.size]? = some (.cells #[.int .i64 y.f0, .string y.f1, .int .i64 y.f2.f0, .int .u64 y.f2.f1, .string y.f2.f2, .slice Av5 y.f2.f3.length cv5, .int .i64 y.f3.f0, .int .u64 y.f3.f1, .string y.f3.f2, .slice A9 y.f3.f3.length c9, .int .u64 y.f4, .int .u64 y.f5, .slice A12 y.f6.length c12, .slice A13 y.f7.length c13] 77 (0, 0)) from hX ▸ (blk_put (blk_put (blk_put (blk_put (blk_below KB.out g9.below) 2 _ rfl) 3 _ rfl) 4 _ rfl) 5 _ rfl))
        have BL2 := Aside0.mk (show Below wr.heap.size wr X5 from by rw [hX]; exact (((((BL.out.trans (g9.below.mono BL.out.size)).setCell (p := ⟨wr.heap.size, 2, none⟩) (Nat.le_refl _) _).setCell (p := ⟨wr.heap.size, 3, none⟩) (Nat.le_refl _) _).setCell (p := ⟨wr.heap.size, 4, none⟩) (Nat.le_refl _) _).setCell (p := ⟨wr.heap.size, 5, none⟩) (Nat.le_refl _) _))
        have HRO2 := Aside0.mk (show k77.R 77 X5 w.heap.size (fun b => b < wr.heap.size) vo (l.take k) from hX ▸ (Kd.R_far (Kd.R_far (Kd.R_far (Kd.R_far (Kd.R_below (Kd.R_mono (Kd.R_bound HREL.out.2) (fun b hb => hb.2.2.1)) (BL.out.trans (g9.below.mono BL.out.size))) (p := ⟨wr.heap.size, 2, none⟩) (fun b hb => Nat.ne_of_lt hb) _) (p := ⟨wr.heap.size, 3, none⟩) (fun b hb => Nat.ne_of_lt hb) _) (p := ⟨wr.heap.size, 4, none⟩) (fun b hb => Nat.ne_of_lt hb) _) (p := ⟨wr.heap.size, 5, none⟩) (fun b hb => Nat.ne_of_lt hb) _))
        have HQ52 := Aside0.mk (show k75.R 75 X5 w.heap.size (fun b => wr.heap.size < b) _ (y.f2.f3) from hX ▸ (Kd.R_far (Kd.R_far (Kd.R_far (Kd.R_far (Kd.R_lower (Kd.R_mono (Kd.R_bound HR5.out.1) (fun b hb => Nat.lt_of_lt_of_le (blk_lt KB.out) (Nat.le_trans gg.below.size hb.2.1))) (WB gg).size) (p := ⟨wr.heap.size, 2, none⟩) (fun b hb => Nat.ne_of_gt hb) _) (p := ⟨wr.heap.size, 3, none⟩) (fun b hb => Nat.ne_of_gt hb) _) (p := ⟨wr.heap.size, 4, none⟩) (fun b hb => Nat.ne_of_gt hb) _) (p := ⟨wr.heap.size, 5, none⟩) (fun b hb => Nat.ne_of_gt hb) _))
        clear hX HR5 g9 gg WB KB BL HRO
        have KB := KB2
        clear KB2
        have BL := BL2
        clear BL2
        have HRO := HRO2
        clear HRO2
        have HQ5 := HQ52
        clear HQ52
        refine wp_grown0 ?_
        intro gg
        have z6 : ∀ g : G X5, g.W.cell? ⟨wr.heap.size, 6, none⟩ = some (.int .i64 y.f3.f0) := fun g => (blk_cell (blk_below KB.out g.below) 6).trans rfl
        have f6 : ∀ g : G X5, g.W.frozen? ⟨wr.heap.size, 6, none⟩ = false := fun g => blk_frozen (blk_below KB.out g.below) 6
        have z7 : ∀ g : G X5, g.W.cell? ⟨wr.heap.size, 7, none⟩ = some (.int .u64 y.f3.f1) := fun g => (blk_cell (blk_below KB.out g.below) 7).trans rfl
        have f7 : ∀ g : G X5, g.W.frozen? ⟨wr.heap.size, 7, none⟩ = false := fun g => blk_frozen (blk_below KB.out g.below) 7
        have z8 : ∀ g : G X5, g.W.cell? ⟨wr.heap.size, 8, none⟩ = some (.string y.f3.f2) := fun g => (blk_cell (blk_below KB.out g.below) 8).trans rfl
        have f8 : ∀ g : G X5, g.W.frozen? ⟨wr.heap.size, 8, none⟩ = false := fun g => blk_frozen (blk_below KB.out g.below) 8
        have z9 : ∀ g : G X5, g.W.cell? ⟨wr.heap.size, 9, none⟩ = some (.slice A9 y.f3.f3.length c9) := fun g => (blk_cell (blk_below KB.out g.below) 9).trans rfl
        have f9 : ∀ g : G X5, g.W.frozen? ⟨wr.heap.size, 9, none⟩ = false := fun g => blk_frozen (blk_below KB.out g.below) 9
        have WB : ∀ g : G X5, Below w.heap.size w g.W := fun g => (B0.out.trans (BL.out.mono B0.out.size)).trans (g.below.mono (B0.out.trans (BL.out.mono B0.out.size)).size)
        go_upto_region 8 with (go_at_call 100; refine (CS.out.2.1 gg.W (WB gg)).mono ?_; rintro _ w9 ⟨v9, rfl, hR, hb⟩; obtain ⟨Av9, cv9, rfl⟩ := Kd.R_slice hR; have HR9 := Aside0.mk (And.intro hR hb); clear hR hb; obtain ⟨g9, hg9⟩ : ∃ g : G X5, g.W = w9 := ⟨mkG (gg.below.trans (HR9.out.2.mono gg.below.size)), rfl⟩; subst hg9)
        clear z6 f6 z7 f7 z8 f8 z9 f9
        obtain ⟨X9, hX⟩ : ∃ X, X = ((((g9.W.setCell ⟨wr.heap.size, 6, none⟩ (.int .i64 y.f3.f0)).setCell ⟨wr.heap.size, 7, none⟩ (.int .u64 y.f3.f1)).setCell ⟨wr.heap.size, 8, none⟩ (.string y.f3.f2)).setCell ⟨wr.heap.size, 9, none⟩ (.slice Av9 y.f3.f3.length cv9)) := ⟨_, rfl⟩
        rw [← hX]
        have KB2 := Aside0.mk (show X9.heap[wr.heap.size]? = some (.cells #[.int .i64 y.f0, .string y.f1, .int .i64 y.f2.f0, .int .u64 y.f2.f1, .string y.f2.f2, .slice Av5 y.f2.f3.length cv5, .int .i64 y.f3.f0, .int .u64 y.f3.f1, .string y.f3.f2, .slice Av9 y.f3.f3.length cv9, .int .u64 y.f4, .int .u64 y.f5, .slice A12 y.f6.length c12, .slice A13 y.f7.length c13] 77 (0, 0)) from hX ▸ (blk_put (blk_put (blk_put (blk_put (blk_below KB.out g9.below) 6 _ rfl) 7 _ rfl) 8 _ rfl) 9 _ rfl))
        have BL2 := Aside0.mk (show Below wr.heap.size wr X9 from by rw [hX]; exact (((((BL.out.trans (g9.below.mono BL.out.size)).setCell (p := ⟨wr.heap.size, 6, none⟩) (Nat.le_refl _) _).setCell (p := ⟨wr.heap.size, 7, none⟩) (Nat.le_refl _) _).setCell (p := ⟨wr.heap.size, 8, none⟩) (Nat.le_refl _) _).setCell (p := ⟨wr.heap.size, 9, none⟩) (Nat.le_refl _) _))
        have HRO2 := Aside0.mk (show k77.R 77 X9 w.heap.size (fun b => b < wr.heap.size) vo (l.take k) from hX ▸ (Kd.R_far (Kd.R_far (Kd.R_far (Kd.R_far (Kd.R_below (Kd.R_mono (Kd.R_bound HREL.out.2) (fun b hb => hb.2.2.1)) (BL.out.trans (g9.below.mono BL.out.size))) (p := ⟨wr.heap.size, 6, none⟩) (fun b hb => Nat.ne_of_lt hb) _) (p := ⟨wr.heap.size, 7, none⟩) (fun b hb => Nat.ne_of_lt hb) _) (p := ⟨wr.heap.size, 8, none⟩) (fun b hb => Nat.ne_of_lt hb) _) (p := ⟨wr.heap.size, 9, none⟩) (fun b hb => Nat.ne_of_lt hb) _))
        have HQ52 := Aside0.mk (show k75.R 75 X9 w.heap.size (fun b => wr.heap.size < b) _ (y.f2.f3) from hX ▸ (Kd.R_far (Kd.R_far (Kd.R_far (Kd.R_far (Kd.R_below HQ5.out g9.below) (p := ⟨wr.heap.size, 6, none⟩) (fun b hb => Nat.ne_of_gt hb) _) (p := ⟨wr.heap.size, 7, none⟩) (fun b hb => Nat.ne_of_gt hb) _) (p := ⟨wr.heap.size, 8, none⟩) (fun b hb => Nat.ne_of_gt hb) _) (p := ⟨wr.heap.size, 9, none⟩) (fun b hb => Nat.ne_of_gt hb) _))
        have HQ92 := Aside0.mk (show k75.R 75 X9 w.heap.size (fun b => wr.heap.size < b) _ (y.f3.f3) from hX ▸ (Kd.R_far (Kd.R_far (Kd.R_far (Kd.R_far (Kd.R_lower (Kd.R_mono (Kd.R_bound HR9.out.1) (fun b hb => Nat.lt_of_lt_of_le (blk_lt KB.out) (Nat.le_trans gg.below.size hb.2.1))) (WB gg).size) (p := ⟨wr.heap.size, 6, none⟩) (fun b hb => Nat.ne_of_gt hb) _) (p := ⟨wr.heap.size, 7, none⟩) (fun b hb => Nat.ne_of_gt hb) _) (p := ⟨wr.heap.size, 8, none⟩) (fun b hb => Nat.ne_of_gt hb) _) (p := ⟨wr.heap.size, 9, none⟩) (fun b hb => Nat.ne_of_gt hb) _))
        clear hX HR9 g9 gg WB KB BL HRO HQ5
        have KB := KB2
        clear KB2
        have BL := BL2
        clear BL2
        have HRO := HRO2
        clear HRO2
        have HQ5 := HQ52
        clear HQ52
        have HQ9 := HQ92
        clear HQ92
        refine wp_grown0 ?_
        intro gg
        have z12 : ∀ g : G X9, g.W.cell? ⟨wr.heap.size, 12, none⟩ = some (.slice A12 y.f6.length c12) := fun g => (blk_cell (blk_below KB.out g.below) 12).trans rfl
        have f12 : ∀ g : G X9, g.W.frozen? ⟨wr.heap.size, 12, none⟩ = false := fun g => blk_frozen (blk_below KB.out g.below) 12
        have WB : ∀ g : G X9, Below w.heap.size w g.W := fun g => (B0.out.trans (BL.out.mono B0.out.size)).trans (g.below.mono (B0.out.trans (BL.out.mono B0.out.size)).size)
        go_upto_region 9 with (go_at_call 86; refine (CS.out.2.2.1 gg.W (WB gg)).mono ?_; rintro _ w9 ⟨v9, rfl, hR, hb⟩; obtain ⟨Av12, cv12, rfl⟩ := Kd.R_slice hR; have HR12 := Aside0.mk (And.intro hR hb); clear hR hb; obtain ⟨g9, hg9⟩ : ∃ g : G X9, g.W = w9 := ⟨mkG (gg.below.trans (HR12.out.2.mono gg.below.size)), rfl⟩; subst hg9)
        clear z12 f12
        obtain ⟨X12, hX⟩ : ∃ X, X = (g9.W.setCell ⟨wr.heap.size, 12, none⟩ (.slice Av12 y.f6.length cv12)) := ⟨_, rfl⟩
        rw [← hX]
        have KB2 := Aside0.mk (show X12.heap[wr.heap.size]? = some (.cells #[.int .i64 y.f0, .string y.f1, .int .i64 y.f2.f0, .int .u64 y.f2.f1, .string y.f2.f2, .slice Av5 y.f2.f3.length cv5, .int .i64 y.f3.f0, .int .u64 y.f3.f1, .string y.f3.f2, .slice Av9 y.f3.f3.length cv9, .int .u64 y.f4, .int .u64 y.f5, .slice Av12 y.f6.length cv12, .slice A13 y.f7.length c13] 77 (0, 0)) from hX ▸ (blk_put (blk_below KB.out g9.below) 12 _ rfl))
        have BL2 := Aside0.mk (show Below wr.heap.size wr X12 from by rw [hX]; exact ((BL.out.trans (g9.below.mono BL.out.size)).setCell (p := ⟨wr.heap.size, 12, none⟩) (Nat.le_refl _) _))
        have HRO2 := Aside0.mk (show k77.R 77 X12 w.heap.size (fun b => b < wr.heap.size) vo (l.take k) from hX ▸ (Kd.R_far (Kd.R_below (Kd.R_mono (Kd.R_bound HREL.out.2) (fun b hb => hb.2.2.1)) (BL.out.trans (g9.below.mono BL.out.size))) (p := ⟨wr.heap.size, 12, none⟩) (fun b hb => Nat.ne_of_lt hb) _))
        have HQ52 := Aside0.mk (show k75.R 75 X12 w.heap.size (fun b => wr.heap.size < b) _ (y.f2.f3) from hX ▸ (Kd.R_far (Kd.R_below HQ5.out g9.below) (p := ⟨wr.heap.size, 12, none⟩) (fun b hb => Nat.ne_of_gt hb) _))
        have HQ92 := Aside0.mk (show k75.R 75 X12 w.heap.size (fun b => wr.heap.size < b) _ (y.f3.f3) from hX ▸ (Kd.R_far (Kd.R_below HQ9.out g9.below) (p := ⟨wr.heap.size, 12, none⟩) (fun b hb => Nat.ne_of_gt hb) _))
        have HQ122 := Aside0.mk (show k77.R 77 X12 w.heap.size (fun b => wr.heap.size < b) _ (y.f6) from hX ▸ (Kd.R_far (Kd.R_lower (Kd.R_mono (Kd.R_bound HR12.out.1) (fun b hb => Nat.lt_of_lt_of_le (blk_lt KB.out) (Nat.le_trans gg.below.size hb.2.1))) (WB gg).size) (p := ⟨wr.heap.size, 12, none⟩) (fun b hb => Nat.ne_of_gt hb) _))
        clear hX HR12 g9 gg WB KB BL HRO HQ5 HQ9
        have KB := KB2
        clear KB2
        have BL := BL2
        clear BL2
        have HRO := HRO2
        clear HRO2
        have HQ5 := HQ52
        clear HQ52
        have HQ9 := HQ92
        clear HQ92
        have HQ12 := HQ122
        clear HQ122
        refine wp_grown0 ?_
        intro gg
        have z13 : ∀ g : G X12, g.W.cell? ⟨wr.heap.size, 13, none⟩ = some (.slice A13 y.f7.length c13) := fun g => (blk_cell (blk_below KB.out g.below) 13).trans rfl
        have f13 : ∀ g : G X12, g.W.frozen? ⟨wr.heap.size, 13, none⟩ = false := fun g => blk_frozen (blk_below KB.out g.below) 13
        have WB : ∀ g : G X12, Below w.heap.size w g.W := fun g => (B0.out.trans (BL.out.mono B0.out.size)).trans (g.below.mono (B0.out.trans (BL.out.mono B0.out.size)).size)
        go_upto_region 10 with (go_at_call 86; refine (CS.out.2.2.2 gg.W (WB gg)).mono ?_; rintro _ w9 ⟨v9, rfl, hR, hb⟩; obtain ⟨Av13, cv13, rfl⟩ := Kd.R_slice hR; have HR13 := Aside0.mk (And.intro hR hb); clear hR hb; obtain ⟨g9, hg9⟩ : ∃ g : G X12, g.W = w9 := ⟨mkG (gg.below.trans (HR13.out.2.mono gg.below.size)), rfl⟩; subst hg9)
        clear z13 f13
        obtain ⟨X13, hX⟩ : ∃ X, X = (g9.W.setCell ⟨wr.heap.size, 13, none⟩ (.slice Av13 y.f7.length cv13)) := ⟨_, rfl⟩
        rw [← hX]
        have KB2 := Aside0.mk (show X13.heap[wr.heap.size]? = some (.cells #[.int .i64 y.f0, .string y.f1, .int .i64 y.f2.f0, .int .u64 y.f2.f1, .string y.f2.f2, .slice Av5 y.f2.f3.length cv5, .int .i64 y.f3.f0, .int .u64 y.f3.f1, .string y.f3.f2, .slice Av9 y.f3.f3.length cv9, .int .u64 y.f4, .int .u64 y.f5, .slice Av12 y.f6.length cv12, .slice Av13 y.f7.length cv13] 77 (0, 0)) from hX ▸ (blk_put (blk_below KB.out g9.below) 13 _ rfl))
        have BL2 := Aside0.mk (show Below wr.heap.size wr X13 from by rw [hX]; exact ((BL.out.trans (g9.below.mono BL.out.size)).setCell (p := ⟨wr.heap.size, 13, none⟩) (Nat.le_refl _) _))
        have HRO2 := Aside0.mk (show k77.R 77 X13 w.heap.size (fun b => b < wr.heap.size) vo (l.take k) from hX ▸ (Kd.R_far (Kd.R_below (Kd.R_mono (Kd.R_bound HREL.out.2) (fun b hb => hb.2.2.1)) (BL.out.trans (g9.below.mono BL.out.size))) (p := ⟨wr.heap.size, 13, none⟩) (fun b hb => Nat.ne_of_lt hb) _))
        have HQ52 := Aside0.mk (show k75.R 75 X13 w.heap.size (fun b => wr.heap.size < b) _ (y.f2.f3) from hX ▸ (Kd.R_far (Kd.R_below HQ5.out g9.below) (p := ⟨wr.heap.size, 13, none⟩) (fun b hb => Nat.ne_of_gt hb) _))
        have HQ92 := Aside0.mk (show k75.R 75 X13 w.heap.size (fun b => wr.heap.size < b) _ (y.f3.f3) from hX ▸ (Kd.R_far (Kd.R_below HQ9.out g9.below) (p := ⟨wr.heap.size, 13, none⟩) (fun b hb => Nat.ne_of_gt hb) _))
        have HQ122 := Aside0.mk (show k77.R 77 X13 w.heap.size (fun b => wr.heap.size < b) _ (y.f6) from hX ▸ (Kd.R_far (Kd.R_below HQ12.out g9.below) (p := ⟨wr.heap.size, 13, none⟩) (fun b hb => Nat.ne_of_gt hb) _))
        have HQ132 := Aside0.mk (show k77.R 77 X13 w.heap.size (fun b => wr.heap.size < b) _ (y.f7) from hX ▸ (Kd.R_far (Kd.R_lower (Kd.R_mono (Kd.R_bound HR13.out.1) (fun b hb => Nat.lt_of_lt_of_le (blk_lt KB.out) (Nat.le_trans gg.below.size hb.2.1))) (WB gg).size) (p := ⟨wr.heap.size, 13, none⟩) (fun b hb => Nat.ne_of_gt hb) _))
        clear hX HR13 g9 gg WB KB BL HRO HQ5 HQ9 HQ12
        have KB := KB2
        clear KB2
        have BL := BL2
        clear BL2
        have HRO := HRO2
        clear HRO2
        have HQ5 := HQ52
        clear HQ52
        have HQ9 := HQ92
        clear HQ92
        have HQ12 := HQ122
        clear HQ122
        have HQ13 := HQ132
        clear HQ132
        refine wp_grown0 ?_
        intro gg
        have z0 : ∀ g : G X13, g.W.cell? ⟨wr.heap.size, 0, none⟩ = some (.int .i64 y.f0) := fun g => (blk_cell (blk_below KB.out g.below) 0).trans rfl
        have z1 : ∀ g : G X13, g.W.cell? ⟨wr.heap.size, 1, none⟩ = some (.string y.f1) := fun g => (blk_cell (blk_below KB.out g.below) 1).trans rfl
        have z2 : ∀ g : G X13, g.W.cell? ⟨wr.heap.size, 2, none⟩ = some (.int .i64 y.f2.f0) := fun g => (blk_cell (blk_below KB.out g.below) 2).trans rfl
        have z3 : ∀ g : G X13, g.W.cell? ⟨wr.heap.size, 3, none⟩ = some (.int .u64 y.f2.f1) := fun g => (blk_cell (blk_below KB.out g.below) 3).trans rfl
        have z4 : ∀ g : G X13, g.W.cell? ⟨wr.heap.size, 4, none⟩ = some (.string y.f2.f2) := fun g => (blk_cell (blk_below KB.out g.below) 4).trans rfl
        have z5 : ∀ g : G X13, g.W.cell? ⟨wr.heap.size, 5, none⟩ = some (.slice Av5 y.f2.f3.length cv5) := fun g => (blk_cell (blk_below KB.out g.below) 5).trans rfl
        have z6 : ∀ g : G X13, g.W.cell? ⟨wr.heap.size, 6, none⟩ = some (.int .i64 y.f3.f0) := fun g => (blk_cell (blk_below KB.out g.below) 6).trans rfl
        have z7 : ∀ g : G X13, g.W.cell? ⟨wr.heap.size, 7, none⟩ = some (.int .u64 y.f3.f1) := fun g => (blk_cell (blk_below KB.out g.below) 7).trans rfl
        have z8 : ∀ g : G X13, g.W.cell? ⟨wr.heap.size, 8, none⟩ = some (.string y.f3.f2) := fun g => (blk_cell (blk_below KB.out g.below) 8).trans rfl
        have z9 : ∀ g : G X13, g.W.cell? ⟨wr.heap.size, 9, none⟩ = some (.slice Av9 y.f3.f3.length cv9) := fun g => (blk_cell (blk_below KB.out g.below) 9).trans rfl
        have z10 : ∀ g : G X13, g.W.cell? ⟨wr.heap.size, 10, none⟩ = some (.int .u64 y.f4) := fun g => (blk_cell (blk_below KB.out g.below) 10).trans rfl
        have z11 : ∀ g : G X13, g.W.cell? ⟨wr.heap.size, 11, none⟩ = some (.int .u64 y.f5) := fun g => (blk_cell (blk_below KB.out g.below) 11).trans rfl
        have z12 : ∀ g : G X13, g.W.cell? ⟨wr.heap.size, 12, none⟩ = some (.slice Av12 y.f6.length cv12) := fun g => (blk_cell (blk_below KB.out g.below) 12).trans rfl
        have z13 : ∀ g : G X13, g.W.cell? ⟨wr.heap.size, 13, none⟩ = some (.slice Av13 y.f7.length cv13) := fun g => (blk_cell (blk_below KB.out g.below) 13).trans rfl
        have HM := Aside0.mk (show ∀ g : G X13, k77.M g.W w.heap.size (fun b => wr.heap.size < b) y [.int .i64 y.f0, .string y.f1, .int .i64 y.f2.f0, .int .u64 y.f2.f1, .string y.f2.f2, .slice Av5 y.f2.f3.length cv5, .int .i64 y.f3.f0, .int .u64 y.f3.f1, .string y.f3.f2, .slice Av9 y.f3.f3.length cv9, .int .u64 y.f4, .int .u64 y.f5, .slice Av12 y.f6.length cv12, .slice Av13 y.f7.length cv13] from fun g => k77_mkM g.W w.heap.size _ y (Kd.R_below HQ5.out g.below) (Kd.R_below HQ9.out g.below) (Kd.R_below HQ12.out g.below) (Kd.R_below HQ13.out g.below))
        have WB : ∀ g : G X13, Below w.heap.size w g.W := fun g => (B0.out.trans (BL.out.mono B0.out.size)).trans (g.below.mono (B0.out.trans (BL.out.mono B0.out.size)).size)
        go_wp2_with (at_builtin; refine Kd.R_append k77 (w0 := w) w.heap.size rfl (.tmp 32) (.tmp 34) 27 77 zSt 200 rfl under27 info77 rfl (show 0 < 14 by decide) (by decide) vo (l.take k) y [.int .i64 y.f0, .string y.f1, .int .i64 y.f2.f0, .int .u64 y.f2.f1, .string y.f2.f2, .slice Av5 y.f2.f3.length cv5, .int .i64 y.f3.f0, .int .u64 y.f3.f1, .string y.f3.f2, .slice Av9 y.f3.f3.length cv9, .int .u64 y.f4, .int .u64 y.f5, .slice Av12 y.f6.length cv12, .slice Av13 y.f7.length cv13] (fun _ => True) (fun b => wr.heap.size < b) rfl rfl (HM.out gg) (fun b hb => ⟨trivial, some_ne_of_lt OB.out (Nat.le_of_lt hb)⟩) (fun _ _ => trivial) (Kd.R_mono (Kd.R_below HRO.out gg.below) (fun _ _ => trivial)) (WB gg) (WB gg).size (by have := HN.out; have := List.length_take_le k l; omega) ?_)
        intro v1 w1 hr1 hb1 hg1 hat1
        obtain ⟨Av1, cv1, rfl⟩ := Kd.R_slice hr1
        have H1 := Aside0.mk (And.intro hb1 hr1)
        clear hr1 hb1 hg1 hat1
        go_wp2_with fail
        refine ⟨⟨k + 1, _, by go_num, rfl, by omega, ⟨H1.out.1, ?_⟩⟩, by simp [intOf]; omega⟩
        rw [T.out]
        exact H1.out.2
    · have hk2 : k = l.length := by omega
      go_wp2_with fail
      go_ret
      refine ⟨_, rfl, ?_, HREL.out.1⟩
      have h := HREL.out.2
      rw [hk2, List.take_length] at h
      exact h
theorem ownB_calls : ∀ (n : Nat) (l : List S77), SizeOf.sizeOf l ≤ n → l.length * 200 ≤ 140737488351232 → Ot.goodTs l → OwnBC l := by
  intro n
  induction n with
  | zero => intro l h; cases l <;> simp at h
  | succ n ih =>
    intro l h hn hg
    refine ownB_walk l hn ((Ot.goodTs_iff l).1 hg) fun x hx => ?_
    have hs := body_size hx h
    have h1 := (Ot.goodTs_iff l).1 hg x hx
    obtain ⟨k, s, e, f, lo, hi, th, el⟩ := x
    rw [Ot.goodT] at h1
    exact ⟨ih _ hs.1 h1.2.2.2.2.2.2.1 h1.2.2.2.2.2.2.2.2.1, ih _ hs.2 h1.2.2.2.2.2.2.2.1 h1.2.2.2.2.2.2.2.2.2⟩
end Go.Proofs.Ytfcahachdpjfoaa.L
end
section
namespace Go.Proofs.Ytfcahachdpjfoaa.L
open Go.RowKit Go.Proofs.YtfcahachdpjfoaaW.PrintWords Go.Proofs.YtfcahachdpjfoaaW.PrintLast Go.Proofs.YtfcahachdpjfoaaW.PrintMore Go.Proofs.Ytfcahachdpjfoaa.Gr
set_option linter.unusedVariables false
set_option linter.unusedSimpArgs false
attribute [local go_sem] G.cell
set_option maxHeartbeats 2000000 in
set_option maxRecDepth 100000 in
theorem great_calls (nm : ByteArray) (wd ln : Int) (ds : List S44) (bd : List S77) (A3 : Option Addr) (c3 : Nat) (A4 : Option Addr) (c4 : Nat) (w : World) (hp : ProgAt w ds bd A3 c3 A4 c4) :
    Calls Try.prog 40 #[.agg #[.string nm, .int .i64 wd, .int .i64 ln, .slice A3 ds.length c3, .slice A4 bd.length c4]] w fun e w' => (∃ b : Bool, e = .returned (.bool b)) ∧ Below w.heap.size w w' := by
  have PAt := Aside0.mk hp
  have hlm := hp.hd.2.1
  clear hp
  go_enter Try.func40, Try.ntmps40
  go_upto_region 2 with (fail)
  have KX := Aside0.mk (show ∀ n : Int, Below (w.alloc (.cells #[.string nm, .int .i64 wd, .int .i64 ln, .slice A3 ds.length c3, .slice A4 bd.length c4] 29)).heap.size (w.alloc (.cells #[.string nm, .int .i64 wd, .int .i64 ln, .slice A3 ds.length c3, .slice A4 bd.length c4] 29)) ((w.alloc (.cells #[.string nm, .int .i64 wd, .int .i64 ln, .slice A3 ds.length c3, .slice A4 bd.length c4] 29)).alloc (.cells #[.int .i64 n] 3)) ∧ NumAt ((w.alloc (.cells #[.string nm, .int .i64 wd, .int .i64 ln, .slice A3 ds.length c3, .slice A4 bd.length c4] 29)).alloc (.cells #[.int .i64 n] 3)) (w.heap.size + 1) from fun n => ⟨(Below.refl _ _).alloc (Nat.le_refl _) _, n, by simpa using blk_new (w.alloc (.cells #[.string nm, .int .i64 wd, .int .i64 ln, .slice A3 ds.length c3, .slice A4 bd.length c4] 29)) (.cells #[.int .i64 n] 3)⟩)
  have KP := Aside0.mk (show (w.alloc (.cells #[.string nm, .int .i64 wd, .int .i64 ln, .slice A3 ds.length c3, .slice A4 bd.length c4] 29)).heap[w.heap.size]? = some (.cells #[.string nm, .int .i64 wd, .int .i64 ln, .slice A3 ds.length c3, .slice A4 bd.length c4] 29 (0, 0)) ∧ Below w.heap.size w (w.alloc (.cells #[.string nm, .int .i64 wd, .int .i64 ln, .slice A3 ds.length c3, .slice A4 bd.length c4] 29)) ∧ (w.alloc (.cells #[.string nm, .int .i64 wd, .int .i64 ln, .slice A3 ds.length c3, .slice A4 bd.length c4] 29)).heap.size = w.heap.size + 1 from ⟨blk_new _ _, (Below.refl _ _).alloc (Nat.le_refl _) _, by simp⟩)
  obtain ⟨Wb, hWb⟩ : ∃ Wb, Wb = w.alloc (.cells #[.string nm, .int .i64 wd, .int .i64 ln, .slice A3 ds.length c3, .slice A4 bd.length c4] 29) := ⟨_, rfl⟩
  rw [← hWb] at KX KP ⊢
  clear hWb
  have OUT := Aside0.mk (show ∀ W, Below Wb.heap.size Wb W → Below w.heap.size w W from fun W h => KP.out.2.1.trans (h.mono KP.out.2.1.size))
  go_wp2_with fail
  go_loopw [4] (fun i W => ∃ k : Nat, i = .int .i64 k ∧ k ≤ ds.length ∧ Aside0 (Below Wb.heap.size Wb W ∧ NumAt W (w.heap.size + 1))) (fun i _ => ds.length - (intOf i).toNat)
  case atStart => exact ⟨0, rfl, Nat.zero_le _, ⟨(KX.out 0).1, (KX.out 0).2⟩⟩
  case round =>
    obtain ⟨k, rfl, hk, HREL⟩ := hrel
    obtain ⟨m, hm⟩ := HREL.out.2
    by_cases hlt : k < ds.length
    · have z3 : ∀ g : G wr, g.W.cell? ⟨w.heap.size, 3, none⟩ = some (.slice A3 ds.length c3) := fun g => (blk_cell (blk_below (blk_below KP.out.1 HREL.out.1) g.below) 3).trans rfl
      have n0 : ∀ g : G wr, g.W.cell? ⟨w.heap.size + 1, 0, none⟩ = some (.int .i64 m) := fun g => (blk_cell (blk_below hm g.below) 0).trans rfl
      have HM := Aside0.mk hm
      clear hm
      obtain ⟨ad, A3d, c3d, e1, q0, q1, q2, q3, l3, g3⟩ := at_T44 PAt.out.hd (k : Int) (Int.natCast_nonneg _) (by omega)
      cases e1
      rw [Int.toNat_natCast] at q0 q1 q2 q3
      have q3g : ∀ g : G wr, _ := fun g => held_in ((OUT.out _ HREL.out.1).trans (g.below.mono (OUT.out _ HREL.out.1).size)) q3
      clear q0 q1 q2 q3 l3 g3
      have hi1 : (k : Int) < (ds.length : Int) := by omega
      refine wp_grown0 ?_
      intro gg
      go_upto_region 5 with (fail)
      refine wp_grown0 ?_
      intro g0
      obtain ⟨gg, hgg⟩ : ∃ g : G wr, g.W = g0.W := ⟨mkG (gg.below.trans (g0.below.mono gg.below.size)), rfl⟩
      rw [← hgg]
      clear hgg g0
      refine start_ (n := 11) (S := fun w' => ∃ g' : G _, w' = g'.W) (ds := [10]) #[false, false, false, false, false, false, false, false, false, false, false] (by kernel_rfl) rfl rfl ⟨mkG (gg.2.drew), rfl⟩ (fun hHeld => ?_)
      obtain ⟨gd, hgd⟩ := hHeld
      rw [hgd]
      clear hgd
      refine take_ (i := 0) (N := some 12) (v := ?_) (a' := ?_) #[true, false, false, false, false, false, false, false, false, false, false] rfl rfl (by kernel_rfl) (fun _ _ _ h => h) (Or.inl ⟨by rfl, ?_⟩) ⟨gd, rfl⟩ ?_ ?_
      rotate_left
      · rintro w' ⟨g', rfl⟩
        go_simp
        with_reducible rfl
      rotate_left
      · simp only [Act.put, List.setIfInBounds_toArray, List.set_cons_zero, List.set_cons_succ, i64_w, i32_w]
        rfl
      refine pure_ (i := 1) (N := some 13) (v := ?_) (a' := ?_) #[true, true, false, false, false, false, false, false, false, false, false] rfl rfl (by kernel_rfl) (fun _ _ _ h => h) (Or.inl ⟨by rfl, ?_⟩) ?_ ?_
      rotate_left
      · intro w'
        go_simp
        with_reducible rfl
      rotate_left
      · simp only [Act.put, List.setIfInBounds_toArray, List.set_cons_zero, List.set_cons_succ, i64_w, i32_w]
        rfl
      refine pure_ (i := 2) (N := some 14) (v := ?_) (a' := ?_) #[true, true, true, false, false, false, false, false, false, false, false] rfl rfl (by kernel_rfl) (fun _ _ _ h => h) (Or.inl ⟨by rfl, ?_⟩) ?_ ?_
      rotate_left
      · intro w'
        go_simp
        with_reducible rfl
      rotate_left
      · simp only [Act.put, List.setIfInBounds_toArray, List.set_cons_zero, List.set_cons_succ, i64_w, i32_w]
        rfl
      refine take_ (i := 3) (N := some 15) (v := ?_) (a' := ?_) #[true, true, true, true, false, false, false, false, false, false, false] rfl rfl (by kernel_rfl) (fun _ _ _ h => h) (Or.inl ⟨by rfl, ?_⟩) ⟨gd, rfl⟩ ?_ ?_
      rotate_left
      · rintro w' ⟨g', rfl⟩
        go_simp
        with_reducible rfl
      rotate_left
      · simp only [Act.put, List.setIfInBounds_toArray, List.set_cons_zero, List.set_cons_succ, i64_w, i32_w]
        rfl
      refine pure_ (i := 4) (N := some 16) (v := ?_) (a' := ?_) #[true, true, true, true, true, false, false, false, false, false, false] rfl rfl (by kernel_rfl) (fun _ _ _ h => h) (Or.inl ⟨by rfl, ?_⟩) ?_ ?_
      rotate_left
      · intro w'
        go_simp
        with_reducible rfl
      rotate_left
      · simp only [Act.put, List.setIfInBounds_toArray, List.set_cons_zero, List.set_cons_succ, i64_w, i32_w]
        rfl
      refine pure_ (i := 5) (N := some 17) (v := ?_) (a' := ?_) #[true, true, true, true, true, true, false, false, false, false, false] rfl rfl (by kernel_rfl) (fun _ _ _ h => h) (Or.inl ⟨by rfl, ?_⟩) ?_ ?_
      rotate_left
      · intro w'
        go_simp
        with_reducible rfl
      rotate_left
      · simp only [Act.put, List.setIfInBounds_toArray, List.set_cons_zero, List.set_cons_succ, i64_w, i32_w]
        rfl
      refine pure_ (i := 6) (N := some 18) (v := ?_) (a' := ?_) #[true, true, true, true, true, true, true, false, false, false, false] rfl rfl (by kernel_rfl) (fun _ _ _ h => h) (Or.inl ⟨by rfl, ?_⟩) ?_ ?_
      rotate_left
      · intro w'
        go_simp
        with_reducible rfl
      rotate_left
      · simp only [Act.put, List.setIfInBounds_toArray, List.set_cons_zero, List.set_cons_succ, i64_w, i32_w]
        rfl
      refine take_ (i := 7) (N := some 19) (v := ?_) (a' := ?_) #[true, true, true, true, true, true, true, true, false, false, false] rfl rfl (by kernel_rfl) (fun _ _ _ h => h) (Or.inl ⟨by rfl, ?_⟩) ⟨gd, rfl⟩ ?_ ?_
      rotate_left
      · rintro w' ⟨g', rfl⟩
        go_simp
        with_reducible rfl
      rotate_left
      · simp only [Act.put, List.setIfInBounds_toArray, List.set_cons_zero, List.set_cons_succ, i64_w, i32_w]
        rfl
      refine pure_ (i := 8) (N := some 20) (v := ?_) (a' := ?_) #[true, true, true, true, true, true, true, true, true, false, false] rfl rfl (by kernel_rfl) (fun _ _ _ h => h) (Or.inl ⟨by rfl, ?_⟩) ?_ ?_
      rotate_left
      · intro w'
        go_simp
        with_reducible rfl
      rotate_left
      · simp only [Act.put, List.setIfInBounds_toArray, List.set_cons_zero, List.set_cons_succ, i64_w, i32_w]
        rfl
      refine pure_ (i := 9) (N := some 21) (v := ?_) (a' := ?_) #[true, true, true, true, true, true, true, true, true, true, false] rfl rfl (by kernel_rfl) (fun _ _ _ h => h) (Or.inl ⟨by rfl, ?_⟩) ?_ ?_
      rotate_left
      · intro w'
        go_simp
        with_reducible rfl
      rotate_left
      · simp only [Act.put, List.setIfInBounds_toArray, List.set_cons_zero, List.set_cons_succ, i64_w, i32_w]
        rfl
      refine last_ (i := 10) (N := none) #[true, true, true, true, true, true, true, true, true, true, true] rfl rfl (by kernel_rfl) (by simp) (fun Kr hKr => ?_)
      have y0 : gd.W.frozen? ⟨w.heap.size + 1, 0, none⟩ = false := blk_frozen (blk_below HM.out gd.below) 0
      obtain ⟨X, hX⟩ : ∃ X, X = gd.W.setCell ⟨w.heap.size + 1, 0, none⟩ (.int .i64 (wrap64 (wrap64 (m + 1) + ((rd_T44 ds (k : Int)).f3.length : Int)))) := ⟨_, rfl⟩
      refine skip_ (w1 := X) (by rfl) rfl (by rw [hX]; first | (go_simp; done) | (go_simp; rfl)) ?_
      clear y0
      refine hKr.out _ _ ?_
      clear hKr Kr
      refine done_ (by kernel_rfl) ?_
      have HX := Aside0.mk (show Below Wb.heap.size Wb X ∧ NumAt X (w.heap.size + 1) from by
        rw [hX]
        exact ⟨(HREL.out.1.trans (gd.below.mono HREL.out.1.size)).setCell (p := ⟨w.heap.size + 1, 0, none⟩) (by rw [KP.out.2.2]; exact Nat.le_refl _) _, _, blk_put (blk_below HM.out gd.below) 0 _ rfl⟩)
      clear hX z3 n0 q3g
      obtain ⟨m2, hm2⟩ := HX.out.2
      have n2 : X.cell? ⟨w.heap.size + 1, 0, none⟩ = some (.int .i64 m2) := (blk_cell hm2 0).trans rfl
      clear hm2
      by_cases h1 : 10000 < m2
      · go_wp2_with fail
        go_ret
        exact ⟨⟨_, rfl⟩, OUT.out _ HX.out.1⟩
      · go_wp2_with fail
        exact ⟨⟨k + 1, by go_num, by omega, ⟨HX.out.1, HX.out.2⟩⟩, by simp [intOf]; omega⟩
    · have z3 : wr.cell? ⟨w.heap.size, 3, none⟩ = some (.slice A3 ds.length c3) := (blk_cell (blk_below KP.out.1 HREL.out.1) 3).trans rfl
      have z4 : wr.cell? ⟨w.heap.size, 4, none⟩ = some (.slice A4 bd.length c4) := (blk_cell (blk_below KP.out.1 HREL.out.1) 4).trans rfl
      clear hm
      go_wp2_with fail
      refine (count_calls _ bd (Nat.le_refl _) Wb wr (w.heap.size + 1) A4 c4 HREL.out.1 (by rw [KP.out.2.2]; exact Nat.le_refl _) HREL.out.2 (Kd.C_below PAt.out.hb KP.out.2.1) PAt.out.hlb).mono ?_
      rintro _ W2 ⟨⟨m3, rfl⟩, _, hg2⟩
      have HG2 := Aside0.mk hg2
      clear hg2
      go_wp2_with fail
      go_ret
      exact ⟨⟨_, rfl⟩, OUT.out _ HG2.out.below⟩
end Go.Proofs.Ytfcahachdpjfoaa.L
end
section
namespace Go.Proofs.Ytfcahachdpjfoaa.L
open Go.RowKit Go.Proofs.YtfcahachdpjfoaaW.PrintWords Go.Proofs.YtfcahachdpjfoaaW.PrintLast Go.Proofs.YtfcahachdpjfoaaW.PrintMore Go.Proofs.Ytfcahachdpjfoaa.Gr
set_option linter.unusedVariables false
set_option linter.unusedSimpArgs false
attribute [local go_sem] G.cell
theorem run_store_fn (P : Program) (w : World) (a : Addr) (m : Mode) (fn : Fn) (x y : Array Value) : (store a (.func fn x y) m).run P w = stored P w a (.func fn x y) m := run_store P w a _ m rfl
attribute [local go_sem] run_store_fn
def BoxAt (b : Nat) (W : World) : Prop := b + 17 ≤ W.heap.size ∧ ∀ i, i < 17 → W.heap[b + i]? = (clL b)[i]?
theorem BoxAt.below {b : Nat} {W W' : World} (h : BoxAt b W) (hb : Below W.heap.size W W') : BoxAt b W' :=
  ⟨Nat.le_trans h.1 hb.size, fun i hi => (hb.block (b + i) (by have := h.1; omega)).trans (h.2 i hi)⟩
theorem run_enter {f : FuncId} {fn : Func} {c : Code} (hf : Try.prog.funcs[f]? = some fn) (hname : (fn.name == "runtime.NumGoroutine") = false) (hb : fn.body = some c) (args : Array Value) (w : World) : (callFunc f args).run Try.prog w = .ok (.enter f args) w := by
  have h1 : fn.name ≠ "runtime.NumGoroutine" := by simpa using hname
  simp [callFunc, hf, h1, hb]
theorem enter87 (args : Array Value) (w : World) : (callFunc 87 args).run Try.prog w = .ok (.enter 87 args) w := run_enter Try.func87 (by kernel_rfl) rfl args w
theorem enter91 (args : Array Value) (w : World) : (callFunc 91 args).run Try.prog w = .ok (.enter 91 args) w := run_enter Try.func91 (by kernel_rfl) rfl args w
theorem enter93 (args : Array Value) (w : World) : (callFunc 93 args).run Try.prog w = .ok (.enter 93 args) w := run_enter Try.func93 (by kernel_rfl) rfl args w
theorem cF_cases {k : Nat} (hk : k < 16) : cF k = 87 ∨ cF k = 91 ∨ cF k = 93 := by
  have hcs : k = 0 ∨ k = 1 ∨ k = 2 ∨ k = 3 ∨ k = 4 ∨ k = 5 ∨ k = 6 ∨ k = 7 ∨ k = 8 ∨ k = 9 ∨ k = 10 ∨ k = 11 ∨ k = 12 ∨ k = 13 ∨ k = 14 ∨ k = 15 := by omega
  rcases hcs with rfl | rfl | rfl | rfl | rfl | rfl | rfl | rfl | rfl | rfl | rfl | rfl | rfl | rfl | rfl | rfl <;> decide
theorem enterF {k : Nat} (hk : k < 16) (args : Array Value) (w : World) : (callFunc (cF k) args).run Try.prog w = .ok (.enter (cF k) args) w := by
  rcases cF_cases hk with h | h | h <;> rw [h]
  · exact enter87 args w
  · exact enter91 args w
  · exact enter93 args w
def RowAt (b : Nat) (adr : Addr) (W : World) : Prop := adr = ⟨b + 16, 0, none⟩ ∧ BoxAt b W
theorem RowAt.below {b : Nat} {adr : Addr} {W W' : World} (h : RowAt b adr W) (hb : Below W.heap.size W W') : RowAt b adr W' := ⟨h.1, h.2.below hb⟩
theorem RowAt.at {b : Nat} {adr : Addr} {W : World} (h : RowAt b adr W) {k : Nat} (hk : k < 16) : W.cell? (adr.add (k * 2)) = some (.int .i64 (cE k)) ∧ W.cell? ⟨(adr.add (k * 2)).block, (adr.add (k * 2)).off + 1, none⟩ = some (.func (.func (cF k)) #[] #[.pointer (some ⟨b + k, 0, none⟩)]) := by
  obtain ⟨rfl, hb⟩ := h
  have q := hb.2 16 (by decide)
  have hcs : k = 0 ∨ k = 1 ∨ k = 2 ∨ k = 3 ∨ k = 4 ∨ k = 5 ∨ k = 6 ∨ k = 7 ∨ k = 8 ∨ k = 9 ∨ k = 10 ∨ k = 11 ∨ k = 12 ∨ k = 13 ∨ k = 14 ∨ k = 15 := by omega
  rcases hcs with rfl | rfl | rfl | rfl | rfl | rfl | rfl | rfl | rfl | rfl | rfl | rfl | rfl | rfl | rfl | rfl <;> exact ⟨(blk_cell q _).trans rfl, (blk_cell q _).trans rfl⟩
theorem clauses_v {w : World} (g : G w) : Calls Try.prog 27 #[] g.W fun e w' => ∃ (b : Nat) (adr : Addr) (g' : G w), e = .returned (.slice (some adr) 16 16) ∧ w' = g'.W ∧ RowAt b adr g'.W := by
  refine (clauses_calls g.W).mono ?_
  rintro _ _ ⟨rfl, rfl⟩
  have hb := below_allocs (clL g.W.heap.size) g.W
  refine ⟨g.W.heap.size, ⟨g.W.heap.size + 16, 0, none⟩, ⟨_, g.below.trans (hb.mono g.below.size)⟩, rfl, rfl, rfl, ?_, fun i hi => heap_allocs _ _ i (by simpa [clL] using hi)⟩
  have q := heap_allocs (clL g.W.heap.size) g.W 16 (by simp [clL])
  have := blk_lt (q.trans (show (clL g.W.heap.size)[16]? = some _ from rfl))
  show g.W.heap.size + 17 ≤ ((clL g.W.heap.size).foldl World.alloc g.W).heap.size
  omega
set_option maxHeartbeats 1000000 in
set_option maxRecDepth 100000 in
theorem fault_calls (nm : ByteArray) (wd ln : Int) (ds : List S44) (bd : List S77) (A3 : Option Addr) (c3 : Nat) (A4 : Option Addr) (c4 : Nat) (W : World) (hp : ProgAt W ds bd A3 c3 A4 c4) (hg : PGood nm wd ln ds bd) (r : Ans) (hr : r = faultS nm wd ln ds bd) :
    Calls Try.prog 10 #[.agg #[.string nm, .int .i64 wd, .int .i64 ln, .slice A3 ds.length c3, .slice A4 bd.length c4]] W fun e w' => e = .returned (.tuple #[.int .i64 r.c, .int .i64 r.at', .int .i64 r.e]) ∧ Below W.heap.size W w' := by
  have gout : ∀ {o : Obj} (g : G (W.alloc o)), Below W.heap.size W g.W := fun g => ((Below.refl _ _).alloc (Nat.le_refl _) _).trans (g.below.mono (by simp))
  have PAt := Aside0.mk hp
  have HR := Aside0.mk hr
  have HG := Aside0.mk hg
  clear hp hr hg
  go_enter Try.func10, Try.ntmps10
  go_upto_region 1 with (fail)
  refine wp_grown0 ?_
  intro gg
  have goutW : ∀ (g : G (gw0 gg)), Below W.heap.size W g.W := fun g => gout g
  go_wp2_with fail
  refine (clauses_v gg).mono ?_
  rintro _ _ ⟨b, adr, gg, rfl, rfl, hrow⟩
  have HB := Aside0.mk hrow
  clear hrow
  go_wp2_with fail
  go_loopw [11] (fun i X => ∃ (k : Nat) (g : G (gw0 gg)), i = .int .i64 k ∧ X = g.W ∧ k ≤ 16 ∧ Aside0 (RowAt b adr g.W ∧ ∀ j, j < k → (cR nm wd ln ds bd j).2 = false)) (fun i _ => 16 - (intOf i).toNat)
  case atStart => exact ⟨0, gg, rfl, rfl, Nat.zero_le _, ⟨HB.out, fun j hj => absurd hj (Nat.not_lt_zero _)⟩⟩
  case round =>
    obtain ⟨k, gx, rfl, rfl, hk, HK⟩ := hrel
    by_cases hlt : k < 16
    · have hk1 : (k : Int) < 16 := by omega
      obtain ⟨fn, hfn⟩ : ∃ fn, fn = cF k := ⟨_, rfl⟩
      obtain ⟨er, her⟩ : ∃ er, er = cE k := ⟨_, rfl⟩
      obtain ⟨q0, q1⟩ := HK.out.1.at hlt
      have hent := enterF hlt
      rw [← hfn] at q1 hent
      rw [← her] at q0
      have HF := Aside0.mk (And.intro hfn her)
      clear hfn her
      go_upto_region 4 with (fail)
      refine wp_grown0 ?_
      intro g2
      have goutX : ∀ (g : G (gw0 g2)), Below gx.W.heap.size gx.W g.W := fun g => ((Below.refl _ _).alloc (Nat.le_refl _) _).trans (g.below.mono (by simp [gw0]))
      have KB : ∀ g : G (gw0 g2), g.W.heap[W.heap.size]? = some (.cells #[.string nm, .int .i64 wd, .int .i64 ln, .slice A3 ds.length c3, .slice A4 bd.length c4] 29 (0, 0)) := fun g => blk_below (blk_below (blk_new _ _) gx.below) (goutX g)
      have z0 : ∀ g : G (gw0 g2), g.W.cell? ⟨W.heap.size, 0, none⟩ = some (.string nm) := fun g => (blk_cell (KB g) 0).trans rfl
      have z1 : ∀ g : G (gw0 g2), g.W.cell? ⟨W.heap.size, 1, none⟩ = some (.int .i64 wd) := fun g => (blk_cell (KB g) 1).trans rfl
      have z2 : ∀ g : G (gw0 g2), g.W.cell? ⟨W.heap.size, 2, none⟩ = some (.int .i64 ln) := fun g => (blk_cell (KB g) 2).trans rfl
      have z3 : ∀ g : G (gw0 g2), g.W.cell? ⟨W.heap.size, 3, none⟩ = some (.slice A3 ds.length c3) := fun g => (blk_cell (KB g) 3).trans rfl
      have z4 : ∀ g : G (gw0 g2), g.W.cell? ⟨W.heap.size, 4, none⟩ = some (.slice A4 bd.length c4) := fun g => (blk_cell (KB g) 4).trans rfl
      clear KB
      have goutY : ∀ (g : G (gw0 g2)), Below (gw0 gg).heap.size (gw0 gg) g.W := fun g => (gx.below.alloc gx.below.size _).trans (g.below.mono (Nat.le_trans gx.below.size (by simp [gw0])))
      obtain ⟨p, hp⟩ : ∃ p, p = cR nm wd ln ds bd k := ⟨_, rfl⟩
      have C := clause_calls nm wd ln ds bd A3 c3 A4 c4 b g2.W (PAt.out.below ((goutW gx).trans ((goutX g2).mono (goutW gx).size))) HG.out (fun i hi => ((HK.out.1.below (goutX g2)).2.2 i (by omega))) k hlt HK.out.2
      rw [← HF.out.1, ← hp] at C
      have HC := Aside0.mk C
      have HP := Aside0.mk hp
      clear C hp
      go_wp2_with fail
      refine (call_of (g := g2) HC.out).mono ?_
      rintro _ _ ⟨rfl, g2, rfl⟩
      rcases bcases p.2 with hb | hb
      · have HBB := Aside0.mk hb
        go_wp2_with fail
        have y0 : ∀ g : G g2.W, g.W.cell? ⟨gx.W.heap.size, 0, none⟩ = some (.int .i64 er) := fun g => (blk_cell (blk_below (blk_below (blk_new _ _) g2.below) g.below) 0).trans rfl
        refine wp_region_grown (by kernel_rfl) (by kernel_rfl) ?_
        repeat go_big_quiet_step (fail)
        refine wpQuiet_nil ?_
        rintro _ ⟨gz, rfl⟩
        go_wp2_with fail
        go_ret3
        have e : r = ⟨(k : Int) + 1, p.1, er⟩ := by
          rw [HR.out, faultS_at hlt HK.out.2 (HP.out ▸ HBB.out), HF.out.2, HP.out]
        exact ⟨fault_ret e, (goutW gx).trans (((goutX g2).trans (gz.below.mono (goutX g2).size)).mono (goutW gx).size)⟩
      · have HBB := Aside0.mk hb
        go_wp2_with fail
        exact ⟨⟨k + 1, mkG (goutY g2), by go_num, rfl, by omega, ⟨HK.out.1.below (goutX g2), fun j hj => (Decidable.em (j = k)).elim (fun h => h ▸ HP.out ▸ HBB.out) (fun h => HK.out.2 j (by omega))⟩⟩, by simp [intOf]; omega⟩
    · have hk1 : ¬ (k : Int) < 16 := by omega
      go_wp2_with fail
      go_ret3
      have e : r = ⟨0, 0, 0⟩ := by rw [HR.out, faultS_none fun j hj => HK.out.2 j (by omega)]
      exact ⟨fault_ret e, goutW _⟩
end Go.Proofs.Ytfcahachdpjfoaa.L
end
section
namespace Go.Proofs.Ytfcahachdpjfoaa.L
open Go.RowKit Go.Proofs.YtfcahachdpjfoaaW.PrintWords Go.Proofs.YtfcahachdpjfoaaW.PrintLast Go.Proofs.YtfcahachdpjfoaaW.PrintMore Go.Proofs.Ytfcahachdpjfoaa.Gr
set_option linter.unusedVariables false
set_option linter.unusedSimpArgs false
attribute [local go_sem] G.cell
set_option maxHeartbeats 1000000 in
set_option maxRecDepth 100000 in
theorem check_calls (nm : ByteArray) (wd ln : Int) (ds : List S44) (bd : List S77) (A3 : Option Addr) (c3 : Nat) (A4 : Option Addr) (c4 : Nat) (w : World) (hp : ProgAt w ds bd A3 c3 A4 c4) (hg : PGood nm wd ln ds bd) (r : Ans) (hr : r = faultS nm wd ln ds bd) :
    Calls Try.prog 15 #[.agg #[.string nm, .int .i64 wd, .int .i64 ln, .slice A3 ds.length c3, .slice A4 bd.length c4]] w fun e w' => e = .returned (.int .i64 r.e) ∧ Below w.heap.size w w' := by
  have gout : ∀ {o : Obj} (g : G (w.alloc o)), Below w.heap.size w g.W := fun g => ((Below.refl _ _).alloc (Nat.le_refl _) _).trans (g.below.mono (by simp))
  have PAt := Aside0.mk hp
  have HR := Aside0.mk hr
  have HG := Aside0.mk hg
  clear hp hr hg
  go_enter Try.func15, Try.ntmps15
  go_upto_region 1 with (fail)
  refine wp_grown0 ?_
  intro gg
  go_wp2_with fail
  refine (call_of (g := gg) (fault_calls nm wd ln ds bd A3 c3 A4 c4 gg.W (PAt.out.below (gout gg)) HG.out r HR.out)).mono ?_
  rintro _ _ ⟨rfl, gg, rfl⟩
  go_wp2_with fail
  go_ret
  exact ⟨rfl, gout _⟩
end Go.Proofs.Ytfcahachdpjfoaa.L
end
section
namespace Go.Proofs.Ytfcahachdpjfoaa.L
open Go.RowKit Go.Proofs.YtfcahachdpjfoaaW.PrintWords Go.Proofs.YtfcahachdpjfoaaW.PrintLast Go.Proofs.YtfcahachdpjfoaaW.PrintMore Go.Proofs.Ytfcahachdpjfoaa.Gr
set_option linter.unusedVariables false
set_option linter.unusedSimpArgs false
def zDe : Value := .agg #[.int .i64 0, .string ⟨#[]⟩, .int .i64 0, .slice none 0 0]
theorem info44 : (Try.prog.info? 44).map (fun i => (i.zero, i.size, i.bytes)) = some (some zDe, 4, 56) := by kernel_rfl
theorem under26 : Try.prog.underlying 26 = some (.slice 44) := by kernel_rfl
section
variable {fr tw : ByteArray}
theorem rn_ok {s : ByteArray} (hs : Ot.okS s) (ht : Ot.okS tw) : Ot.okS (rn fr tw s) := by
  rcases rn_cases (fr := fr) (tw := tw) s with ⟨_, h⟩ | ⟨_, h⟩ <;> rw [h] <;> assumption
mutual
theorem goodE_rn (ht : Ot.okS tw) : ∀ x : S75, Ot.goodE x → Ot.goodE (rnE fr tw x)
  | ⟨a, b, s, l⟩, h => by
    rw [Ot.goodE] at h
    rw [rnE, Ot.goodE, rnEs_len]
    exact ⟨h.1, h.2.1, rn_ok h.2.2.1 ht, h.2.2.2.1, goodEs_rn ht l h.2.2.2.2⟩
theorem goodEs_rn (ht : Ot.okS tw) : ∀ l : List S75, Ot.goodEs l → Ot.goodEs (rnEs fr tw l)
  | [], h => by rw [rnEs]; exact h
  | x :: r, h => by
    rw [Ot.goodEs] at h
    rw [rnEs, Ot.goodEs]
    exact ⟨goodE_rn ht x h.1, goodEs_rn ht r h.2⟩
end
mutual
theorem goodT_rn (ht : Ot.okS tw) : ∀ x : S77, Ot.goodT x → Ot.goodT (rnT fr tw x)
  | ⟨a, s, e, f, lo, hi, th, el⟩, h => by
    rw [Ot.goodT] at h
    obtain ⟨h1, h2, h3, h4, h5, h6, h7, h8, h9, h10⟩ := h
    rw [rnT, Ot.goodT, rnTs_len, rnTs_len]
    exact ⟨h1, rn_ok h2 ht, goodE_rn ht e h3, goodE_rn ht f h4, h5, h6, h7, h8, goodTs_rn ht th h9, goodTs_rn ht el h10⟩
theorem goodTs_rn (ht : Ot.okS tw) : ∀ l : List S77, Ot.goodTs l → Ot.goodTs (rnTs fr tw l)
  | [], h => by rw [rnTs]; exact h
  | x :: r, h => by
    rw [Ot.goodTs] at h
    rw [rnTs, Ot.goodTs]
    exact ⟨goodT_rn ht x h.1, goodTs_rn ht r h.2⟩
end
mutual
theorem bulkE_rn : ∀ x : S75, Ot.bulkE (rnE fr tw x) = Ot.bulkE x
  | ⟨a, b, s, l⟩ => by rw [rnE, Ot.bulkE, Ot.bulkE, bulkEs_rn l]
theorem bulkEs_rn : ∀ l : List S75, Ot.bulkEs (rnEs fr tw l) = Ot.bulkEs l
  | [] => by rw [rnEs]
  | x :: r => by rw [rnEs, Ot.bulkEs, Ot.bulkEs, bulkE_rn x, bulkEs_rn r]
end
mutual
theorem bulkT_rn : ∀ x : S77, Ot.bulkT (rnT fr tw x) = Ot.bulkT x
  | ⟨a, s, e, f, lo, hi, th, el⟩ => by rw [rnT, Ot.bulkT, Ot.bulkT, bulkE_rn e, bulkE_rn f, bulkTs_rn th, bulkTs_rn el]
theorem bulkTs_rn : ∀ l : List S77, Ot.bulkTs (rnTs fr tw l) = Ot.bulkTs l
  | [] => by rw [rnTs]
  | x :: r => by rw [rnTs, Ot.bulkTs, Ot.bulkTs, bulkT_rn x, bulkTs_rn r]
end
end
theorem set_bulk : ∀ (ds : List S44) (k : Nat) (d : S44), (∀ x, ds[k]? = some x → d.f3 = x.f3) → ((ds.set k d).map Ot.bulkD).sum = (ds.map Ot.bulkD).sum
  | [], _, _, _ => rfl
  | x :: r, 0, d, h => by
    rw [List.set_cons_zero, List.map_cons, List.map_cons, List.sum_cons, List.sum_cons]
    unfold Ot.bulkD
    rw [h x rfl]
  | x :: r, k + 1, d, h => by
    rw [List.set_cons_succ, List.map_cons, List.map_cons, List.sum_cons, List.sum_cons, set_bulk r k d fun y hy => h y (by simpa using hy)]
theorem rd_get {ds : List S44} {k : Nat} {x : S44} (h : ds[k]? = some x) : rd_T44 ds (k : Int) = x := by
  unfold rd_T44
  rw [Int.toNat_natCast, List.getD_eq_getElem?_getD, h]; rfl
theorem PGood.set {nm : ByteArray} {wd ln : Int} {ds : List S44} {bd : List S77} (hg : PGood nm wd ln ds bd) {k : Nat} (hk : k < ds.length) {a : Int} {s : ByteArray} (ha : Ot.okI a) (hs : Ot.okS s) : PGood nm wd ln (ds.set k ⟨a, s, (rd_T44 ds (k : Int)).f2, (rd_T44 ds (k : Int)).f3⟩) bd := by
  refine ⟨⟨hg.good.nm, hg.good.wd, hg.good.ln, by simpa using hg.good.dl, fun d hd => ?_, hg.good.bl, hg.good.bd⟩, ?_⟩
  · rcases List.mem_or_eq_of_mem_set hd with hd | rfl
    · exact hg.good.ds d hd
    · have := hg.good.ds _ (rd44_mem hk)
      exact ⟨ha, hs, this.2.2.1, this.2.2.2.1, this.2.2.2.2⟩
  · have := hg.bulk
    simp only [Ot.bulkP] at this ⊢
    rw [set_bulk ds k _ fun x hx => by rw [rd_get hx]]
    exact this
theorem PGood.body {nm : ByteArray} {wd ln : Int} {ds : List S44} {bd : List S77} (hg : PGood nm wd ln ds bd) {fr tw : ByteArray} (ht : Ot.okS tw) : PGood nm wd ln ds (rnTs fr tw bd) := by
  refine ⟨⟨hg.good.nm, hg.good.wd, hg.good.ln, hg.good.dl, hg.good.ds, by simp only [rnTs_len]; exact hg.good.bl, (Ot.goodTs_iff _).1 (goodTs_rn ht bd ((Ot.goodTs_iff bd).2 hg.good.bd))⟩, ?_⟩
  have := hg.bulk
  simp only [Ot.bulkP, bulkTs_rn] at this ⊢
  exact this
end Go.Proofs.Ytfcahachdpjfoaa.L
end
