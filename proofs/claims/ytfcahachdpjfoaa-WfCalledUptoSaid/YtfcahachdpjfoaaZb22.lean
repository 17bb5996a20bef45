/- Texts joined by a program of mine: Sg Sh. -/
import Derived.Test.YtfcahachdpjfoaaZb20
import Derived.Test.YtfcahachdpjfoaaZb21
section
namespace Go.Proofs.Ytfcahachdpjfoaa.L
open Go.RowKit Go.Proofs.YtfcahachdpjfoaaW.PrintWords Go.Proofs.YtfcahachdpjfoaaW.PrintLast Go.Proofs.YtfcahachdpjfoaaW.PrintMore Go.Proofs.Ytfcahachdpjfoaa.Gr
set_option linter.unusedVariables false
set_option linter.unusedSimpArgs false
attribute [local go_sem] G.cell
def zSt : Value := .agg #[.int .i64 0, .string ⟨#[]⟩, .int .i64 0, .int .u64 0, .string ⟨#[]⟩, .slice none 0 0, .int .i64 0, .int .u64 0, .string ⟨#[]⟩, .slice none 0 0, .int .u64 0, .int .u64 0, .slice none 0 0, .slice none 0 0]
theorem info77 : (Try.prog.info? 77).map (fun i => (i.zero, i.size, i.bytes)) = some (some zSt, 14, 200) := by kernel_rfl
theorem under27 : Try.prog.underlying 27 = some (.slice 77) := by kernel_rfl
theorem rnTs_add (fr tw : ByteArray) (l : List S77) (x : S77) : rnTs fr tw (l ++ [x]) = rnTs fr tw l ++ [rnT fr tw x] := by
  induction l with
  | nil => simp [rnTs]
  | cons y r ih => rw [List.cons_append, rnTs, ih, rnTs, List.cons_append]
def CalledBC (fr tw : ByteArray) (l : List S77) : Prop := ∀ (A : Option Addr) (c : Nat) (w : World), k77.C w A l.length l → l.length ≤ c →
  Calls Try.prog 22 #[.slice A l.length c, .string fr, .string tw] w fun r w' => ∃ v, r = .returned v ∧ k77.R 77 w' w.heap.size (fun _ => True) v (rnTs fr tw l) ∧ Below w.heap.size w w'
set_option maxHeartbeats 4000000 in
set_option maxRecDepth 100000 in
theorem calledBody_walk (fr tw : ByteArray) (l : List S77) (hn : l.length * 200 ≤ 140737488351232) (hg : ∀ x ∈ l, Ot.goodT x) (ih : ∀ x ∈ l, CalledBC fr tw x.f6 ∧ CalledBC fr tw x.f7) : CalledBC fr tw l := by
  intro A c w hc hl
  have IH := Aside0.mk ih
  have HC := Aside0.mk hc
  have HN := Aside0.mk hn
  have HG := Aside0.mk hg
  have hlm := hc.2.1
  clear ih hc hg hn
  go_enter Try.func22, Try.ntmps22
  go_wp2_with fail
  go_loopw [8, 7] (fun i v W => ∃ (k : Nat) (vo : Value), i = .int .i64 k ∧ vo = v ∧ k ≤ l.length ∧ Aside0 (Below w.heap.size w W ∧ k77.R 77 W w.heap.size (fun _ => True) vo (rnTs fr tw (l.take k)))) (fun i _ _ => l.length - (intOf i).toNat)
  case atStart => exact ⟨0, _, rfl, rfl, Nat.zero_le _, ⟨Below.refl _ _, by rw [List.take_zero, rnTs]; exact Kd.R_nil _ _ _ _ _⟩⟩
  case round =>
    obtain ⟨k, vo, rfl, rfl, hk, HREL⟩ := hrel
    by_cases hlt : k < l.length
    · obtain ⟨ad, A5, c5, A9, c9, A12, c12, A13, c13, e1, q0, q1, q2, q3, q4, q5, q6, q7, q8, q9, q10, q11, q12, q13, l5, g5, l9, g9, l12, g12, l13, g13⟩ := at_T77 HC.out (k : Int) (Int.natCast_nonneg _) (by omega)
      cases e1
      rw [Int.toNat_natCast] at q0 q1 q2 q3 q4 q5 q6 q7 q8 q9 q10 q11 q12 q13
      replace q0 := held_in HREL.out.1 q0
      replace q1 := held_in HREL.out.1 q1
      replace q2 := held_in HREL.out.1 q2
      replace q3 := held_in HREL.out.1 q3
      replace q4 := held_in HREL.out.1 q4
      replace q5 := held_in HREL.out.1 q5
      replace q6 := held_in HREL.out.1 q6
      replace q7 := held_in HREL.out.1 q7
      replace q8 := held_in HREL.out.1 q8
      replace q9 := held_in HREL.out.1 q9
      replace q10 := held_in HREL.out.1 q10
      replace q11 := held_in HREL.out.1 q11
      replace q12 := held_in HREL.out.1 q12
      replace q13 := held_in HREL.out.1 q13
      have hi1 : (k : Int) < (l.length : Int) := by omega
      have K := Aside0.mk (And.intro l5 (And.intro g5 (And.intro l9 (And.intro g9 (And.intro l12 (And.intro g12 (And.intro l13 g13)))))))
      clear l5 g5 l9 g9 l12 g12 l13 g13
      have IH1 := Aside0.mk (IH.out _ (rd77_mem hlt))
      have GT := Aside0.mk (HG.out _ (rd77_mem hlt))
      have T := Aside0.mk (congrArg (rnTs fr tw) (take_rd77 hlt))
      generalize rd_T77 l (k : Int) = y at *
      have GE := Aside0.mk (show Ot.goodE y.f2 ∧ Ot.goodE y.f3 from by obtain ⟨a, s, e, f, lo, hi, th, el⟩ := y; have h := GT.out; rw [Ot.goodT] at h; exact ⟨h.2.2.1, h.2.2.2.1⟩)
      have C5 := fun W (h : Below w.heap.size w W) => called_calls fr tw _ y.f2 (Nat.le_refl _) GE.out.1 A5 c5 W (Kd.C_below K.out.2.1 h) K.out.1
      have C9 := fun W (h : Below w.heap.size w W) => called_calls fr tw _ y.f3 (Nat.le_refl _) GE.out.2 A9 c9 W (Kd.C_below K.out.2.2.2.1 h) K.out.2.2.1
      have C12 := fun W (h : Below w.heap.size w W) => IH1.out.1 A12 c12 W (Kd.C_below K.out.2.2.2.2.2.1 h) K.out.2.2.2.2.1
      have C13 := fun W (h : Below w.heap.size w W) => IH1.out.2 A13 c13 W (Kd.C_below K.out.2.2.2.2.2.2.2 h) K.out.2.2.2.2.2.2.1
      have CS := Aside0.mk (And.intro C5 (And.intro C9 (And.intro C12 C13)))
      clear C5 C9 C12 C13
      obtain ⟨nm, hnm⟩ : ∃ nm, nm = rn fr tw y.f1 := ⟨_, rfl⟩
      have hcs : (y.f1.toList = fr.toList ∧ nm = tw) ∨ ((y.f1.toList == fr.toList) = false ∧ nm = y.f1) := by
        rw [hnm]; unfold rn
        rcases eqS_cases y.f1 fr with ⟨h1, h2⟩ | ⟨h1, h2⟩
        · exact .inl ⟨h1, by rw [if_pos h2]⟩
        · exact .inr ⟨h1, by rw [if_neg (by rw [h2]; decide)]⟩
      have HNM := Aside0.mk hnm
      clear hnm
      have HCS := Aside0.mk hcs
      clear hcs
      go_upto_if 23 with (fail)
      go_cut [] (fun wc => Aside0 (wc = wr.alloc (.cells #[.int .i64 y.f0, .string nm, .int .i64 y.f2.f0, .int .u64 y.f2.f1, .string y.f2.f2, .slice A5 y.f2.f3.length c5, .int .i64 y.f3.f0, .int .u64 y.f3.f1, .string y.f3.f2, .slice A9 y.f3.f3.length c9, .int .u64 y.f4, .int .u64 y.f5, .slice A12 y.f6.length c12, .slice A13 y.f7.length c13] 77)))
      case first =>
        rcases HCS.out with ⟨h1, h2⟩ | ⟨h1, h2⟩
        · have h3 : (y.f1.toList == fr.toList) = true := by simp [h1]
          have H2 := Aside0.mk h2
          clear h1 h2
          rw [h3]
          go_wp2
          go_meet
          case rel => exact ⟨by rw [H2.out]⟩
        · have H2 := Aside0.mk h2
          clear h2
          rw [h1]
          go_wp2
          go_meet
          case rel => exact ⟨by rw [H2.out]⟩
      case rest =>
        clear HCS q0 q1 q2 q3 q4 q5 q6 q7 q8 q9 q10 q11 q12 q13
        have hwc := hcut.out
        clear hcut
        have B0 := Aside0.mk (HREL.out.1)
        have hbk : wc.heap[wr.heap.size]? = some (.cells #[.int .i64 y.f0, .string nm, .int .i64 y.f2.f0, .int .u64 y.f2.f1, .string y.f2.f2, .slice A5 y.f2.f3.length c5, .int .i64 y.f3.f0, .int .u64 y.f3.f1, .string y.f3.f2, .slice A9 y.f3.f3.length c9, .int .u64 y.f4, .int .u64 y.f5, .slice A12 y.f6.length c12, .slice A13 y.f7.length c13] 77 (0, 0)) := hwc ▸ blk_new wr _
        have hbl : Below wr.heap.size wr wc := hwc ▸ (Below.refl _ _).alloc (Nat.le_refl _) _
        clear hwc
        have HRO := Aside0.mk (Kd.R_below HREL.out.2 hbl)
        have OB := Aside0.mk (show ∀ b, vo.ownBlock = some b → b < wr.heap.size from by obtain ⟨_, inner, ho, _⟩ := HREL.out.2; exact fun b hb => own_lt ho b hb)
        have KB := Aside0.mk hbk
        have BL := Aside0.mk hbl
        clear hbk hbl
        go_upto_region 8 with (fail)
        refine wp_grown0 ?_
        intro gg
        have z2 : ∀ g : G wc, g.W.cell? ⟨wr.heap.size, 2, none⟩ = some (.int .i64 y.f2.f0) := fun g => (blk_cell (blk_below KB.out g.below) 2).trans rfl
        have f2 : ∀ g : G wc, g.W.frozen? ⟨wr.heap.size, 2, none⟩ = false := fun g => blk_frozen (blk_below KB.out g.below) 2
        have z3 : ∀ g : G wc, g.W.cell? ⟨wr.heap.size, 3, none⟩ = some (.int .u64 y.f2.f1) := fun g => (blk_cell (blk_below KB.out g.below) 3).trans rfl
        have f3 : ∀ g : G wc, g.W.frozen? ⟨wr.heap.size, 3, none⟩ = false := fun g => blk_frozen (blk_below KB.out g.below) 3
        have z4 : ∀ g : G wc, g.W.cell? ⟨wr.heap.size, 4, none⟩ = some (.string y.f2.f2) := fun g => (blk_cell (blk_below KB.out g.below) 4).trans rfl
        have f4 : ∀ g : G wc, g.W.frozen? ⟨wr.heap.size, 4, none⟩ = false := fun g => blk_frozen (blk_below KB.out g.below) 4
        have z5 : ∀ g : G wc, g.W.cell? ⟨wr.heap.size, 5, none⟩ = some (.slice A5 y.f2.f3.length c5) := fun g => (blk_cell (blk_below KB.out g.below) 5).trans rfl
        have f5 : ∀ g : G wc, g.W.frozen? ⟨wr.heap.size, 5, none⟩ = false := fun g => blk_frozen (blk_below KB.out g.below) 5
        have WB : ∀ g : G wc, Below w.heap.size w g.W := fun g => (B0.out.trans (BL.out.mono B0.out.size)).trans (g.below.mono (B0.out.trans (BL.out.mono B0.out.size)).size)
        go_upto_region 9 with (go_at_call 38; refine (CS.out.1 gg.W (WB gg)).mono ?_; rintro _ w9 ⟨v9, rfl, hR, hb⟩; obtain ⟨Av5, cv5, rfl⟩ := Kd.R_slice hR; have HR5 := Aside0.mk (And.intro hR hb); clear hR hb; obtain ⟨g9, hg9⟩ : ∃ g : G wc, g.W = w9 := ⟨mkG (gg.below.trans (HR5.out.2.mono gg.below.size)), rfl⟩; subst hg9)
        clear z2 f2 z3 f3 z4 f4 z5 f5
        obtain ⟨X5, hX⟩ : ∃ X, X = ((((g9.W.setCell ⟨wr.heap.size, 2, none⟩ (.int .i64 y.f2.f0)).setCell ⟨wr.heap.size, 3, none⟩ (.int .u64 y.f2.f1)).setCell ⟨wr.heap.size, 4, none⟩ (.string (rn fr tw y.f2.f2))).setCell ⟨wr.heap.size, 5, none⟩ (.slice Av5 (rnEs fr tw y.f2.f3).length cv5)) := ⟨_, rfl⟩
        rw [← hX]
        have KB2 := Aside0.mk (show X5.heap[wr.heap.size]? = some (.cells #[.int .i64 y.f0, .string nm, .int .i64 y.f2.f0, .int .u64 y.f2.f1, .string (rn fr tw y.f2.f2), .slice Av5 (rnEs fr tw y.f2.f3).length cv5, .int .i64 y.f3.f0, .int .u64 y.f3.f1, .string y.f3.f2, .slice A9 y.f3.f3.length c9, .int .u64 y.f4, .int .u64 y.f5, .slice A12 y.f6.length c12, .slice A13 y.f7.length c13] 77 (0, 0)) from hX ▸ (blk_put (blk_put (blk_put (blk_put (blk_below KB.out g9.below) 2 _ rfl) 3 _ rfl) 4 _ rfl) 5 _ rfl))
        have BL2 := Aside0.mk (show Below wr.heap.size wr X5 from by rw [hX]; exact (((((BL.out.trans (g9.below.mono BL.out.size)).setCell (p := ⟨wr.heap.size, 2, none⟩) (Nat.le_refl _) _).setCell (p := ⟨wr.heap.size, 3, none⟩) (Nat.le_refl _) _).setCell (p := ⟨wr.heap.size, 4, none⟩) (Nat.le_refl _) _).setCell (p := ⟨wr.heap.size, 5, none⟩) (Nat.le_refl _) _))
        have HRO2 := Aside0.mk (show k77.R 77 X5 w.heap.size (fun b => b < wr.heap.size) vo (rnTs fr tw (l.take k)) from hX ▸ (Kd.R_far (Kd.R_far (Kd.R_far (Kd.R_far (Kd.R_below (Kd.R_mono (Kd.R_bound HREL.out.2) (fun b hb => hb.2.2.1)) (BL.out.trans (g9.below.mono BL.out.size))) (p := ⟨wr.heap.size, 2, none⟩) (fun b hb => Nat.ne_of_lt hb) _) (p := ⟨wr.heap.size, 3, none⟩) (fun b hb => Nat.ne_of_lt hb) _) (p := ⟨wr.heap.size, 4, none⟩) (fun b hb => Nat.ne_of_lt hb) _) (p := ⟨wr.heap.size, 5, none⟩) (fun b hb => Nat.ne_of_lt hb) _))
        have HQ52 := Aside0.mk (show k75.R 75 X5 w.heap.size (fun b => wr.heap.size < b) _ (rnEs fr tw y.f2.f3) from hX ▸ (Kd.R_far (Kd.R_far (Kd.R_far (Kd.R_far (Kd.R_lower (Kd.R_mono (Kd.R_bound HR5.out.1) (fun b hb => Nat.lt_of_lt_of_le (blk_lt KB.out) (Nat.le_trans gg.below.size hb.2.1))) (WB gg).size) (p := ⟨wr.heap.size, 2, none⟩) (fun b hb => Nat.ne_of_gt hb) _) (p := ⟨wr.heap.size, 3, none⟩) (fun b hb => Nat.ne_of_gt hb) _) (p := ⟨wr.heap.size, 4, none⟩) (fun b hb => Nat.ne_of_gt hb) _) (p := ⟨wr.heap.size, 5, none⟩) (fun b hb => Nat.ne_of_gt hb) _))
        clear hX HR5 g9 gg WB KB BL HRO
        have KB := KB2
        clear KB2
        have BL := BL2
        clear BL2
        have HRO := HRO2
        clear HRO2
        have HQ5 := HQ52
        clear HQ52
        refine wp_grown0 ?_
        intro gg
        have z6 : ∀ g : G X5, g.W.cell? ⟨wr.heap.size, 6, none⟩ = some (.int .i64 y.f3.f0) := fun g => (blk_cell (blk_below KB.out g.below) 6).trans rfl
        have f6 : ∀ g : G X5, g.W.frozen? ⟨wr.heap.size, 6, none⟩ = false := fun g => blk_frozen (blk_below KB.out g.below) 6
        have z7 : ∀ g : G X5, g.W.cell? ⟨wr.heap.size, 7, none⟩ = some (.int .u64 y.f3.f1) := fun g => (blk_cell (blk_below KB.out g.below) 7).trans rfl
        have f7 : ∀ g : G X5, g.W.frozen? ⟨wr.heap.size, 7, none⟩ = false := fun g => blk_frozen (blk_below KB.out g.below) 7
        have z8 : ∀ g : G X5, g.W.cell? ⟨wr.heap.size, 8, none⟩ = some (.string y.f3.f2) := fun g => (blk_cell (blk_below KB.out g.below) 8).trans rfl
        have f8 : ∀ g : G X5, g.W.frozen? ⟨wr.heap.size, 8, none⟩ = false := fun g => blk_frozen (blk_below KB.out g.below) 8
        have z9 : ∀ g : G X5, g.W.cell? ⟨wr.heap.size, 9, none⟩ = some (.slice A9 y.f3.f3.length c9) := fun g => (blk_cell (blk_below KB.out g.below) 9).trans rfl
        have f9 : ∀ g : G X5, g.W.frozen? ⟨wr.heap.size, 9, none⟩ = false := fun g => blk_frozen (blk_below KB.out g.below) 9
        have WB : ∀ g : G X5, Below w.heap.size w g.W := fun g => (B0.out.trans (BL.out.mono B0.out.size)).trans (g.below.mono (B0.out.trans (BL.out.mono B0.out.size)).size)
        go_upto_region 10 with (go_at_call 38; refine (CS.out.2.1 gg.W (WB gg)).mono ?_; rintro _ w9 ⟨v9, rfl, hR, hb⟩; obtain ⟨Av9, cv9, rfl⟩ := Kd.R_slice hR; have HR9 := Aside0.mk (And.intro hR hb); clear hR hb; obtain ⟨g9, hg9⟩ : ∃ g : G X5, g.W = w9 := ⟨mkG (gg.below.trans (HR9.out.2.mono gg.below.size)), rfl⟩; subst hg9)
        clear z6 f6 z7 f7 z8 f8 z9 f9
        obtain ⟨X9, hX⟩ : ∃ X, X = ((((g9.W.setCell ⟨wr.heap.size, 6, none⟩ (.int .i64 y.f3.f0)).setCell ⟨wr.heap.size, 7, none⟩ (.int .u64 y.f3.f1)).setCell ⟨wr.heap.size, 8, none⟩ (.string (rn fr tw y.f3.f2))).setCell ⟨wr.heap.size, 9, none⟩ (.slice Av9 (rnEs fr tw y.f3.f3).length cv9)) := ⟨_, rfl⟩
        rw [← hX]
        have KB2 := Aside0.mk (show X9.heap[wr.heap.size]? = some (.cells #[.int .i64 y.f0, .string nm, .int .i64 y.f2.f0, .int .u64 y.f2.f1, .string (rn fr tw y.f2.f2), .slice Av5 (rnEs fr tw y.f2.f3).length cv5, .int .i64 y.f3.f0, .int .u64 y.f3.f1, .string (rn fr tw y.f3.f2), .slice Av9 (rnEs fr tw y.f3.f3).length cv9, .int .u64 y.f4, .int .u64 y.f5, .slice A12 y.f6.length c12, .slice A13 y.f7.length c13] 77 (0, 0)) from hX ▸ (blk_put (blk_put (blk_put (blk_put (blk_below KB.out g9.below) 6 _ rfl) 7 _ rfl) 8 _ rfl) 9 _ rfl))
        have BL2 := Aside0.mk (show Below wr.heap.size wr X9 from by rw [hX]; exact (((((BL.out.trans (g9.below.mono BL.out.size)).setCell (p := ⟨wr.heap.size, 6, none⟩) (Nat.le_refl _) _).setCell (p := ⟨wr.heap.size, 7, none⟩) (Nat.le_refl _) _).setCell (p := ⟨wr.heap.size, 8, none⟩) (Nat.le_refl _) _).setCell (p := ⟨wr.heap.size, 9, none⟩) (Nat.le_refl _) _))
        have HRO2 := Aside0.mk (show k77.R 77 X9 w.heap.size (fun b => b < wr.heap.size) vo (rnTs fr tw (l.take k)) from hX ▸ (Kd.R_far (Kd.R_far (Kd.R_far (Kd.R_far (Kd.R_below (Kd.R_mono (Kd.R_bound HREL.out.2) (fun b hb => hb.2.2.1)) (BL.out.trans (g9.below.mono BL.out.size))) (p := ⟨wr.heap.size, 6, none⟩) (fun b hb => Nat.ne_of_lt hb) _) (p := ⟨wr.heap.size, 7, none⟩) (fun b hb => Nat.ne_of_lt hb) _) (p := ⟨wr.heap.size, 8, none⟩) (fun b hb => Nat.ne_of_lt hb) _) (p := ⟨wr.heap.size, 9, none⟩) (fun b hb => Nat.ne_of_lt hb) _))
        have HQ52 := Aside0.mk (show k75.R 75 X9 w.heap.size (fun b => wr.heap.size < b) _ (rnEs fr tw y.f2.f3) from hX ▸ (Kd.R_far (Kd.R_far (Kd.R_far (Kd.R_far (Kd.R_below HQ5.out g9.below) (p := ⟨wr.heap.size, 6, none⟩) (fun b hb => Nat.ne_of_gt hb) _) (p := ⟨wr.heap.size, 7, none⟩) (fun b hb => Nat.ne_of_gt hb) _) (p := ⟨wr.heap.size, 8, none⟩) (fun b hb => Nat.ne_of_gt hb) _) (p := ⟨wr.heap.size, 9, none⟩) (fun b hb => Nat.ne_of_gt hb) _))
        have HQ92 := Aside0.mk (show k75.R 75 X9 w.heap.size (fun b => wr.heap.size < b) _ (rnEs fr tw y.f3.f3) from hX ▸ (Kd.R_far (Kd.R_far (Kd.R_far (Kd.R_far (Kd.R_lower (Kd.R_mono (Kd.R_bound HR9.out.1) (fun b hb => Nat.lt_of_lt_of_le (blk_lt KB.out) (Nat.le_trans gg.below.size hb.2.1))) (WB gg).size) (p := ⟨wr.heap.size, 6, none⟩) (fun b hb => Nat.ne_of_gt hb) _) (p := ⟨wr.heap.size, 7, none⟩) (fun b hb => Nat.ne_of_gt hb) _) (p := ⟨wr.heap.size, 8, none⟩) (fun b hb => Nat.ne_of_gt hb) _) (p := ⟨wr.heap.size, 9, none⟩) (fun b hb => Nat.ne_of_gt hb) _))
        clear hX HR9 g9 gg WB KB BL HRO HQ5
        have KB := KB2
        clear KB2
        have BL := BL2
        clear BL2
        have HRO := HRO2
        clear HRO2
        have HQ5 := HQ52
        clear HQ52
        have HQ9 := HQ92
        clear HQ92
        refine wp_grown0 ?_
        intro gg
        have z12 : ∀ g : G X9, g.W.cell? ⟨wr.heap.size, 12, none⟩ = some (.slice A12 y.f6.length c12) := fun g => (blk_cell (blk_below KB.out g.below) 12).trans rfl
        have f12 : ∀ g : G X9, g.W.frozen? ⟨wr.heap.size, 12, none⟩ = false := fun g => blk_frozen (blk_below KB.out g.below) 12
        have WB : ∀ g : G X9, Below w.heap.size w g.W := fun g => (B0.out.trans (BL.out.mono B0.out.size)).trans (g.below.mono (B0.out.trans (BL.out.mono B0.out.size)).size)
        go_upto_region 11 with (go_at_call 22; refine (CS.out.2.2.1 gg.W (WB gg)).mono ?_; rintro _ w9 ⟨v9, rfl, hR, hb⟩; obtain ⟨Av12, cv12, rfl⟩ := Kd.R_slice hR; have HR12 := Aside0.mk (And.intro hR hb); clear hR hb; obtain ⟨g9, hg9⟩ : ∃ g : G X9, g.W = w9 := ⟨mkG (gg.below.trans (HR12.out.2.mono gg.below.size)), rfl⟩; subst hg9)
        clear z12 f12
        obtain ⟨X12, hX⟩ : ∃ X, X = (g9.W.setCell ⟨wr.heap.size, 12, none⟩ (.slice Av12 (rnTs fr tw y.f6).length cv12)) := ⟨_, rfl⟩
        rw [← hX]
        have KB2 := Aside0.mk (show X12.heap[wr.heap.size]? = some (.cells #[.int .i64 y.f0, .string nm, .int .i64 y.f2.f0, .int .u64 y.f2.f1, .string (rn fr tw y.f2.f2), .slice Av5 (rnEs fr tw y.f2.f3).length cv5, .int .i64 y.f3.f0, .int .u64 y.f3.f1, .string (rn fr tw y.f3.f2), .slice Av9 (rnEs fr tw y.f3.f3).length cv9, .int .u64 y.f4, .int .u64 y.f5, .slice Av12 (rnTs fr tw y.f6).length cv12, .slice A13 y.f7.length c13] 77 (0, 0)) from hX ▸ (blk_put (blk_below KB.out g9.below) 12 _ rfl))
        have BL2 := Aside0.mk (show Below wr.heap.size wr X12 from by rw [hX]; exact ((BL.out.trans (g9.below.mono BL.out.size)).setCell (p := ⟨wr.heap.size, 12, none⟩) (Nat.le_refl _) _))
        have HRO2 := Aside0.mk (show k77.R 77 X12 w.heap.size (fun b => b < wr.heap.size) vo (rnTs fr tw (l.take k)) from hX ▸ (Kd.R_far (Kd.R_below (Kd.R_mono (Kd.R_bound HREL.out.2) (fun b hb => hb.2.2.1)) (BL.out.trans (g9.below.mono BL.out.size))) (p := ⟨wr.heap.size, 12, none⟩) (fun b hb => Nat.ne_of_lt hb) _))
        have HQ52 := Aside0.mk (show k75.R 75 X12 w.heap.size (fun b => wr.heap.size < b) _ (rnEs fr tw y.f2.f3) from hX ▸ (Kd.R_far (Kd.R_below HQ5.out g9.below) (p := ⟨wr.heap.size, 12, none⟩) (fun b hb => Nat.ne_of_gt hb) _))
        have HQ92 := Aside0.mk (show k75.R 75 X12 w.heap.size (fun b => wr.heap.size < b) _ (rnEs fr tw y.f3.f3) from hX ▸ (Kd.R_far (Kd.R_below HQ9.out g9.below) (p := ⟨wr.heap.size, 12, none⟩) (fun b hb => Nat.ne_of_gt hb) _))
        have HQ122 := Aside0.mk (show k77.R 77 X12 w.heap.size (fun b => wr.heap.size < b) _ (rnTs fr tw y.f6) from hX ▸ (Kd.R_far (Kd.R_lower (Kd.R_mono (Kd.R_bound HR12.out.1) (fun b hb => Nat.lt_of_lt_of_le (blk_lt KB.out) (Nat.le_trans gg.below.size hb.2.1))) (WB gg).size) (p := ⟨wr.heap.size, 12, none⟩) (fun b hb => Nat.ne_of_gt hb) _))
        clear hX HR12 g9 gg WB KB BL HRO HQ5 HQ9
        have KB := KB2
        clear KB2
        have BL := BL2
        clear BL2
        have HRO := HRO2
        clear HRO2
        have HQ5 := HQ52
        clear HQ52
        have HQ9 := HQ92
        clear HQ92
        have HQ12 := HQ122
        clear HQ122
        refine wp_grown0 ?_
        intro gg
        have z13 : ∀ g : G X12, g.W.cell? ⟨wr.heap.size, 13, none⟩ = some (.slice A13 y.f7.length c13) := fun g => (blk_cell (blk_below KB.out g.below) 13).trans rfl
        have f13 : ∀ g : G X12, g.W.frozen? ⟨wr.heap.size, 13, none⟩ = false := fun g => blk_frozen (blk_below KB.out g.below) 13
        have WB : ∀ g : G X12, Below w.heap.size w g.W := fun g => (B0.out.trans (BL.out.mono B0.out.size)).trans (g.below.mono (B0.out.trans (BL.out.mono B0.out.size)).size)
        go_upto_region 12 with (go_at_call 22; refine (CS.out.2.2.2 gg.W (WB gg)).mono ?_; rintro _ w9 ⟨v9, rfl, hR, hb⟩; obtain ⟨Av13, cv13, rfl⟩ := Kd.R_slice hR; have HR13 := Aside0.mk (And.intro hR hb); clear hR hb; obtain ⟨g9, hg9⟩ : ∃ g : G X12, g.W = w9 := ⟨mkG (gg.below.trans (HR13.out.2.mono gg.below.size)), rfl⟩; subst hg9)
        clear z13 f13
        obtain ⟨X13, hX⟩ : ∃ X, X = (g9.W.setCell ⟨wr.heap.size, 13, none⟩ (.slice Av13 (rnTs fr tw y.f7).length cv13)) := ⟨_, rfl⟩
        rw [← hX]
        have KB2 := Aside0.mk (show X13.heap[wr.heap.size]? = some (.cells #[.int .i64 y.f0, .string nm, .int .i64 y.f2.f0, .int .u64 y.f2.f1, .string (rn fr tw y.f2.f2), .slice Av5 (rnEs fr tw y.f2.f3).length cv5, .int .i64 y.f3.f0, .int .u64 y.f3.f1, .string (rn fr tw y.f3.f2), .slice Av9 (rnEs fr tw y.f3.f3).length cv9, .int .u64 y.f4, .int .u64 y.f5, .slice Av12 (rnTs fr tw y.f6).length cv12, .slice Av13 (rnTs fr tw y.f7).length cv13] 77 (0, 0)) from hX ▸ (blk_put (blk_below KB.out g9.below) 13 _ rfl))
        have BL2 := Aside0.mk (show Below wr.heap.size wr X13 from by rw [hX]; exact ((BL.out.trans (g9.below.mono BL.out.size)).setCell (p := ⟨wr.heap.size, 13, none⟩) (Nat.le_refl _) _))
        have HRO2 := Aside0.mk (show k77.R 77 X13 w.heap.size (fun b => b < wr.heap.size) vo (rnTs fr tw (l.take k)) from hX ▸ (Kd.R_far (Kd.R_below (Kd.R_mono (Kd.R_bound HREL.out.2) (fun b hb => hb.2.2.1)) (BL.out.trans (g9.below.mono BL.out.size))) (p := ⟨wr.heap.size, 13, none⟩) (fun b hb => Nat.ne_of_lt hb) _))
        have HQ52 := Aside0.mk (show k75.R 75 X13 w.heap.size (fun b => wr.heap.size < b) _ (rnEs fr tw y.f2.f3) from hX ▸ (Kd.R_far (Kd.R_below HQ5.out g9.below) (p := ⟨wr.heap.size, 13, none⟩) (fun b hb => Nat.ne_of_gt hb) _))
        have HQ92 := Aside0.mk (show k75.R 75 X13 w.heap.size (fun b => wr.heap.size < b) _ (rnEs fr tw y.f3.f3) from hX ▸ (Kd.R_far (Kd.R_below HQ9.out g9.below) (p := ⟨wr.heap.size, 13, none⟩) (fun b hb => Nat.ne_of_gt hb) _))
        have HQ122 := Aside0.mk (show k77.R 77 X13 w.heap.size (fun b => wr.heap.size < b) _ (rnTs fr tw y.f6) from hX ▸ (Kd.R_far (Kd.R_below HQ12.out g9.below) (p := ⟨wr.heap.size, 13, none⟩) (fun b hb => Nat.ne_of_gt hb) _))
        have HQ132 := Aside0.mk (show k77.R 77 X13 w.heap.size (fun b => wr.heap.size < b) _ (rnTs fr tw y.f7) from hX ▸ (Kd.R_far (Kd.R_lower (Kd.R_mono (Kd.R_bound HR13.out.1) (fun b hb => Nat.lt_of_lt_of_le (blk_lt KB.out) (Nat.le_trans gg.below.size hb.2.1))) (WB gg).size) (p := ⟨wr.heap.size, 13, none⟩) (fun b hb => Nat.ne_of_gt hb) _))
        clear hX HR13 g9 gg WB KB BL HRO HQ5 HQ9 HQ12
        have KB := KB2
        clear KB2
        have BL := BL2
        clear BL2
        have HRO := HRO2
        clear HRO2
        have HQ5 := HQ52
        clear HQ52
        have HQ9 := HQ92
        clear HQ92
        have HQ12 := HQ122
        clear HQ122
        have HQ13 := HQ132
        clear HQ132
        refine wp_grown0 ?_
        intro gg
        have z0 : ∀ g : G X13, g.W.cell? ⟨wr.heap.size, 0, none⟩ = some (.int .i64 y.f0) := fun g => (blk_cell (blk_below KB.out g.below) 0).trans rfl
        have z1 : ∀ g : G X13, g.W.cell? ⟨wr.heap.size, 1, none⟩ = some (.string nm) := fun g => (blk_cell (blk_below KB.out g.below) 1).trans rfl
        have z2 : ∀ g : G X13, g.W.cell? ⟨wr.heap.size, 2, none⟩ = some (.int .i64 y.f2.f0) := fun g => (blk_cell (blk_below KB.out g.below) 2).trans rfl
        have z3 : ∀ g : G X13, g.W.cell? ⟨wr.heap.size, 3, none⟩ = some (.int .u64 y.f2.f1) := fun g => (blk_cell (blk_below KB.out g.below) 3).trans rfl
        have z4 : ∀ g : G X13, g.W.cell? ⟨wr.heap.size, 4, none⟩ = some (.string (rn fr tw y.f2.f2)) := fun g => (blk_cell (blk_below KB.out g.below) 4).trans rfl
        have z5 : ∀ g : G X13, g.W.cell? ⟨wr.heap.size, 5, none⟩ = some (.slice Av5 (rnEs fr tw y.f2.f3).length cv5) := fun g => (blk_cell (blk_below KB.out g.below) 5).trans rfl
        have z6 : ∀ g : G X13, g.W.cell? ⟨wr.heap.size, 6, none⟩ = some (.int .i64 y.f3.f0) := fun g => (blk_cell (blk_below KB.out g.below) 6).trans rfl
        have z7 : ∀ g : G X13, g.W.cell? ⟨wr.heap.size, 7, none⟩ = some (.int .u64 y.f3.f1) := fun g => (blk_cell (blk_below KB.out g.below) 7).trans rfl
        have z8 : ∀ g : G X13, g.W.cell? ⟨wr.heap.size, 8, none⟩ = some (.string (rn fr tw y.f3.f2)) := fun g => (blk_cell (blk_below KB.out g.below) 8).trans rfl
        have z9 : ∀ g : G X13, g.W.cell? ⟨wr.heap.size, 9, none⟩ = some (.slice Av9 (rnEs fr tw y.f3.f3).length cv9) := fun g => (blk_cell (blk_below KB.out g.below) 9).trans rfl
        have z10 : ∀ g : G X13, g.W.cell? ⟨wr.heap.size, 10, none⟩ = some (.int .u64 y.f4) := fun g => (blk_cell (blk_below KB.out g.below) 10).trans rfl
        have z11 : ∀ g : G X13, g.W.cell? ⟨wr.heap.size, 11, none⟩ = some (.int .u64 y.f5) := fun g => (blk_cell (blk_below KB.out g.below) 11).trans rfl
        have z12 : ∀ g : G X13, g.W.cell? ⟨wr.heap.size, 12, none⟩ = some (.slice Av12 (rnTs fr tw y.f6).length cv12) := fun g => (blk_cell (blk_below KB.out g.below) 12).trans rfl
        have z13 : ∀ g : G X13, g.W.cell? ⟨wr.heap.size, 13, none⟩ = some (.slice Av13 (rnTs fr tw y.f7).length cv13) := fun g => (blk_cell (blk_below KB.out g.below) 13).trans rfl
        have HM := Aside0.mk (show ∀ g : G X13, k77.M g.W w.heap.size (fun b => wr.heap.size < b) (rnT fr tw y) [.int .i64 y.f0, .string nm, .int .i64 y.f2.f0, .int .u64 y.f2.f1, .string (rn fr tw y.f2.f2), .slice Av5 (rnEs fr tw y.f2.f3).length cv5, .int .i64 y.f3.f0, .int .u64 y.f3.f1, .string (rn fr tw y.f3.f2), .slice Av9 (rnEs fr tw y.f3.f3).length cv9, .int .u64 y.f4, .int .u64 y.f5, .slice Av12 (rnTs fr tw y.f6).length cv12, .slice Av13 (rnTs fr tw y.f7).length cv13] from fun g => by rw [HNM.out, rnT_eq, rnE_eq, rnE_eq]; exact k77_mkM g.W w.heap.size _ ⟨y.f0, rn fr tw y.f1, ⟨y.f2.f0, y.f2.f1, rn fr tw y.f2.f2, rnEs fr tw y.f2.f3⟩, ⟨y.f3.f0, y.f3.f1, rn fr tw y.f3.f2, rnEs fr tw y.f3.f3⟩, y.f4, y.f5, rnTs fr tw y.f6, rnTs fr tw y.f7⟩ (Kd.R_below HQ5.out g.below) (Kd.R_below HQ9.out g.below) (Kd.R_below HQ12.out g.below) (Kd.R_below HQ13.out g.below))
        have WB : ∀ g : G X13, Below w.heap.size w g.W := fun g => (B0.out.trans (BL.out.mono B0.out.size)).trans (g.below.mono (B0.out.trans (BL.out.mono B0.out.size)).size)
        go_wp2_with (at_builtin; refine Kd.R_append k77 (w0 := w) w.heap.size rfl (.tmp 50) (.tmp 52) 27 77 zSt 200 rfl under27 info77 rfl (show 0 < 14 by decide) (by decide) vo (rnTs fr tw (l.take k)) (rnT fr tw y) [.int .i64 y.f0, .string nm, .int .i64 y.f2.f0, .int .u64 y.f2.f1, .string (rn fr tw y.f2.f2), .slice Av5 (rnEs fr tw y.f2.f3).length cv5, .int .i64 y.f3.f0, .int .u64 y.f3.f1, .string (rn fr tw y.f3.f2), .slice Av9 (rnEs fr tw y.f3.f3).length cv9, .int .u64 y.f4, .int .u64 y.f5, .slice Av12 (rnTs fr tw y.f6).length cv12, .slice Av13 (rnTs fr tw y.f7).length cv13] (fun _ => True) (fun b => wr.heap.size < b) rfl rfl (HM.out gg) (fun b hb => ⟨trivial, some_ne_of_lt OB.out (Nat.le_of_lt hb)⟩) (fun _ _ => trivial) (Kd.R_mono (Kd.R_below HRO.out gg.below) (fun _ _ => trivial)) (WB gg) (WB gg).size (by have := HN.out; have := List.length_take_le k l; rw [rnTs_len]; omega) ?_)
        intro v1 w1 hr1 hb1 hg1 hat1
        obtain ⟨Av1, cv1, rfl⟩ := Kd.R_slice hr1
        have H1 := Aside0.mk (And.intro hb1 hr1)
        clear hr1 hb1 hg1 hat1
        go_wp2_with fail
        refine ⟨⟨k + 1, _, by go_num, rfl, by omega, ⟨H1.out.1, ?_⟩⟩, by simp [intOf]; omega⟩
        have h := T.out
        rw [rnTs_add] at h
        rw [h]
        exact H1.out.2
    · have hk2 : k = l.length := by omega
      go_wp2_with fail
      go_ret
      refine ⟨_, rfl, ?_, HREL.out.1⟩
      have h := HREL.out.2
      rw [hk2, List.take_length] at h
      exact h
theorem calledBody_calls (fr tw : ByteArray) : ∀ (n : Nat) (l : List S77), SizeOf.sizeOf l ≤ n → l.length * 200 ≤ 140737488351232 → Ot.goodTs l → CalledBC fr tw l := by
  intro n
  induction n with
  | zero => intro l h; cases l <;> simp at h
  | succ n ih =>
    intro l h hn hg
    refine calledBody_walk fr tw l hn ((Ot.goodTs_iff l).1 hg) fun x hx => ?_
    have hs := stand_size hx h
    have h1 := (Ot.goodTs_iff l).1 hg x hx
    obtain ⟨k, s, e, f, lo, hi, th, el⟩ := x
    rw [Ot.goodT] at h1
    exact ⟨ih _ hs.1 h1.2.2.2.2.2.2.1 h1.2.2.2.2.2.2.2.2.1, ih _ hs.2 h1.2.2.2.2.2.2.2.1 h1.2.2.2.2.2.2.2.2.2⟩
end Go.Proofs.Ytfcahachdpjfoaa.L
end
section
namespace Go.Proofs.Ytfcahachdpjfoaa.L
open Go.RowKit Go.Proofs.YtfcahachdpjfoaaW.PrintWords Go.Proofs.YtfcahachdpjfoaaW.PrintLast Go.Proofs.YtfcahachdpjfoaaW.PrintMore Go.Proofs.Ytfcahachdpjfoaa.Gr
set_option linter.unusedVariables false
set_option linter.unusedSimpArgs false
attribute [local go_sem] G.cell
set_option maxHeartbeats 2000000 in
set_option maxRecDepth 100000 in
theorem wfCalled_walk (nm : ByteArray) (wd ln : Int) (ds : List S44) (bd : List S77) (A3 : Option Addr) (c3 : Nat) (A4 : Option Addr) (c4 : Nat) (which : Int) (tw : ByteArray) (w : World) (hp : ProgAt w ds bd A3 c3 A4 c4) (hg : PGood nm wd ln ds bd) (htw : tw.size ≤ 140737488351232) :
    Calls Try.prog 6 #[.agg #[.string nm, .int .i64 wd, .int .i64 ln, .slice A3 ds.length c3, .slice A4 bd.length c4], .int .i64 which, .string tw] w fun e w' => e = .returned (.bool true) ∧ Below w.heap.size w w' := by
  have gout : ∀ {o : Obj} (g : G (w.alloc o)), Below w.heap.size w g.W := fun g => ((Below.refl _ _).alloc (Nat.le_refl _) _).trans (g.below.mono (by simp))
  have PAt := Aside0.mk hp
  have HG := Aside0.mk hg
  have HTW := Aside0.mk htw
  clear hp hg htw
  obtain ⟨f, hf⟩ : ∃ f, f = faultS nm wd ln ds bd := ⟨_, rfl⟩
  have HF := Aside0.mk hf
  clear hf
  go_enter Try.func6, Try.ntmps6
  go_upto_region 1 with (fail)
  refine wp_grown0 ?_
  intro gg
  go_wp2_with fail
  refine (call_of (g := gg) (live_calls gg.W)).mono ?_
  rintro _ _ ⟨rfl, gg, rfl⟩
  go_wp2_with fail
  refine (call_of (g := gg) (refCheck_calls nm wd ln ds bd A3 c3 A4 c4 gg.W (PAt.out.below (gout gg)) HG.out f HF.out)).mono ?_
  rintro _ _ ⟨rfl, gg, rfl⟩
  by_cases he : f.e = 0
  rotate_left
  · have b := bn he
    clear he
    go_wp2_with fail
    go_ret
    exact ⟨rfl, gout _⟩
  have b : (f.e != 0) = false := by simp [he]
  have HE := Aside0.mk he
  clear he
  rcases Nat.eq_zero_or_pos ds.length with hz | hz
  · have hz2 : ((ds.length : Int) == 0) = true := by simp [hz]
    clear hz
    go_wp2_with fail
    go_ret
    exact ⟨rfl, gout _⟩
  have hz2 : ((ds.length : Int) == 0) = false := by
    have : (ds.length : Int) ≠ 0 := by omega
    simpa using this
  have hnil : ¬ ds = [] := by intro h; rw [h] at hz; simp at hz
  have HZ := Aside0.mk hz
  clear hz
  rcases bcases (namedB tw) with hn | hn
  rotate_left
  · have HN := Aside0.mk hn
    clear hn
    go_wp2_with fail
    refine (call_of (g := gg) (refName_v HN.out gg.W)).mono ?_
    rintro _ _ ⟨rfl, gg, rfl⟩
    go_wp2_with fail
    go_ret
    exact ⟨rfl, gout _⟩
  have HN := Aside0.mk hn
  clear hn
  rcases hfi : findB ds tw with _ | i
  rotate_left
  · have HI := Aside0.mk (show findI ds tw = (i : Int) by unfold findI; rw [hfi])
    clear hfi
    go_wp2_with fail
    refine (call_of (g := gg) (refName_v HN.out gg.W)).mono ?_
    rintro _ _ ⟨rfl, gg, rfl⟩
    go_wp2_with fail
    refine (call_of (g := gg) (Decl_v (PAt.out.below (gout gg)) HI.out)).mono ?_
    rintro _ _ ⟨rfl, gg, rfl⟩
    go_wp2_with fail
    go_ret
    exact ⟨rfl, gout _⟩
  have HI := Aside0.mk (show findI ds tw = -1 by unfold findI; rw [hfi])
  have HFI := Aside0.mk hfi
  clear hfi
  have SC := fun (g : G (gw0 gg)) (v : Bool) (h : standTs tw bd = v) => stand_v (stands_calls tw _ bd (Nat.le_refl _)) h A4 c4 g.W (Kd.C_below PAt.out.hb (gout g)) PAt.out.hlb
  have SCA := Aside0.mk SC
  clear SC
  rcases bcases (standTs tw bd) with hs | hs
  · have HS := Aside0.mk hs
    clear hs
    go_wp2_with fail
    refine (call_of (g := gg) (refName_v HN.out gg.W)).mono ?_
    rintro _ _ ⟨rfl, gg, rfl⟩
    go_wp2_with fail
    refine (call_of (g := gg) (Decl_v (PAt.out.below (gout gg)) HI.out)).mono ?_
    rintro _ _ ⟨rfl, gg, rfl⟩
    go_wp2_with fail
    refine (call_of (g := gg) (SCA.out gg true HS.out)).mono ?_
    rintro _ _ ⟨rfl, gg, rfl⟩
    go_wp2_with fail
    go_ret
    exact ⟨rfl, gout _⟩
  have HS := Aside0.mk hs
  clear hs
  go_wp2_with fail
  refine (call_of (g := gg) (refName_v HN.out gg.W)).mono ?_
  rintro _ _ ⟨rfl, gg, rfl⟩
  go_wp2_with fail
  refine (call_of (g := gg) (Decl_v (PAt.out.below (gout gg)) HI.out)).mono ?_
  rintro _ _ ⟨rfl, gg, rfl⟩
  go_wp2_with fail
  refine (call_of (g := gg) (SCA.out gg false HS.out)).mono ?_
  rintro _ _ ⟨rfl, gg, rfl⟩
  go_upto_if 48 with (fail)
  obtain ⟨kk, hkk, ht⟩ : ∃ kk : Nat, kk < ds.length ∧ ((which.tmod (ds.length : Int) < 0 ∧ wrap64 (-(which.tmod (ds.length : Int))) = (kk : Int)) ∨ (¬ which.tmod (ds.length : Int) < 0 ∧ which.tmod (ds.length : Int) = (kk : Int))) := by
    have h1 : (which.tmod (ds.length : Int)).natAbs < ds.length := by
      have := Int.natAbs_tmod which (ds.length : Int)
      rw [this, Int.natAbs_natCast]
      exact Nat.mod_lt _ HZ.out
    have h3 := PAt.out.hd.2.1
    refine ⟨(which.tmod (ds.length : Int)).natAbs, h1, ?_⟩
    rcases Int.lt_or_le (which.tmod (ds.length : Int)) 0 with h | h
    · refine .inl ⟨h, ?_⟩
      unfold wrap64; omega
    · exact .inr ⟨by omega, by omega⟩
  generalize which.tmod (ds.length : Int) = t at *
  have HK := Aside0.mk hkk
  clear hkk
  go_cut [7] (fun kv wc => Aside0 (kv = .int .i64 (kk : Int) ∧ ∃ g : G (gw0 gg), wc = g.W))
  case first =>
    rcases ht with ⟨h1, h2⟩ | ⟨h1, h2⟩
    · have H2 := Aside0.mk h2
      clear h2
      go_wp2
      go_meet
      case rel => exact ⟨by rw [H2.out], _, rfl⟩
    · have H2 := Aside0.mk h2
      clear h2
      go_wp2
      go_meet
      case rel => exact ⟨by rw [H2.out], _, rfl⟩
  case rest =>
    clear ht
    obtain ⟨rfl, g1, rfl⟩ := hcut.out
    clear hcut
    obtain ⟨ad, A3d, c3d, e1, q0, q1, q2, q3, l3, g3⟩ := at_T44 PAt.out.hd (kk : Int) (Int.natCast_nonneg _) (by have := HK.out; omega)
    cases e1
    rw [Int.toNat_natCast] at q0 q1 q2 q3
    clear q0 q2 q3 l3 g3
    have q1g : ∀ g : G (gw0 gg), _ := fun g => held_in (gout g) q1
    have hk1 : (kk : Int) < (ds.length : Int) := by have := HK.out; omega
    clear q1
    obtain ⟨fr, hfr⟩ : ∃ fr, fr = (rd_T44 ds (kk : Int)).f1 := ⟨_, rfl⟩
    rw [← hfr] at q1g
    have HFR := Aside0.mk hfr
    clear hfr
    go_upto_region 10 with (fail)
    have WG1 := Aside0.mk (gout g1)
    refine wp_grown0 ?_
    intro g2
    have WG2 := Aside0.mk (show ∀ g : G (gw0 g2), Below w.heap.size w g.W from fun g => (WG1.out.alloc WG1.out.size _).trans (g.below.mono (Nat.le_trans WG1.out.size (by simp [gw0]))))
    have zz : ∀ (g : G (gw0 g2)) (o : Obj), (g.W.alloc o).cell? ⟨w.heap.size, 3, none⟩ = some (.slice (some ad) ds.length c3) := fun g o => (blk_cell (blk_alloc (blk_below (blk_alloc (blk_below (blk_new w _) g1.below) _) g.below) o) 3).trans rfl
    have P2 := Aside0.mk (show ∀ g : G (gw0 g2), g.W.heap[w.heap.size]? = some (.cells #[.string nm, .int .i64 wd, .int .i64 ln, .slice (some ad) ds.length c3, .slice A4 bd.length c4] 29 (0, 0)) from fun g => blk_below (blk_alloc (blk_below (blk_new w _) g1.below) _) g.below)
    have QB := Aside0.mk (show ∀ g : G (gw0 g2), g.W.heap[g1.W.heap.size]? = some (.cells #[.string nm, .int .i64 wd, .int .i64 ln, .slice (some ad) ds.length c3, .slice A4 bd.length c4] 29 (0, 0)) from fun g => blk_below (blk_new _ _) g.below)
    have lq := blk_lt (QB.out g2)
    have d3 : Kd.N k44 44 (g2.W.alloc (.cells #[] 44)) w.heap.size (fun b => b ≠ g1.W.heap.size) (.slice (some ⟨g2.W.heap.size, 0, none⟩) 0 0) [] := N_empty g2.W w.heap.size _ (WG2.out g2).size (by omega)
    have d4 : Kd.F k44 (g2.W.alloc (.cells #[] 44)) (fun b => b < w.heap.size) (some ad) ds.length ds := Kd.F_below (Kd.C_F heap44 PAt.out.hd) ((WG2.out g2).alloc (WG2.out g2).size _)
    have c5 : ∀ b, b < w.heap.size → b ≠ g1.W.heap.size ∧ some b ≠ (Value.slice (some ⟨g2.W.heap.size, 0, none⟩) 0 0).ownBlock := fun b hb => ⟨by have := WG1.out.size; omega, fun he => by have := (WG2.out g2).size; simp [Value.ownBlock] at he; omega⟩
    have c6 : Below w.heap.size w (g2.W.alloc (.cells #[] 44)) := (WG2.out g2).alloc (WG2.out g2).size _
    have c8 : (([] : List S44).length + ds.length) * 56 ≤ 140737488355328 := by have := HG.out.good.dl; simp only at this; simp; omega
    have c9 : ∀ b, (g2.W.alloc (.cells #[] 44)).heap.size ≤ b → b ≠ g1.W.heap.size := fun b hb => by simp at hb; omega
    have CC := Aside0.mk (And.intro d3 (And.intro d4 (And.intro c5 (And.intro c6 (And.intro c8 c9)))))
    clear d3 d4 c5 c6 c8 c9 lq
    go_wp2_with (at_builtin; refine Kd.N_append_rows k44 (w0 := w) w.heap.size rfl (.tmp 58) (.tmp 60) 26 44 zDe 56 rfl under26 info44 rfl (show 0 < 4 by decide) (by decide) (.slice (some ⟨g2.W.heap.size, 0, none⟩) 0 0) [] ds (some ad) ds.length c3 (fun b => b ≠ g1.W.heap.size) (fun b => b < w.heap.size) rfl rfl CC.out.1 CC.out.2.1 CC.out.2.2.1 CC.out.2.2.2.2.2 CC.out.2.2.2.1 CC.out.2.2.2.1.size CC.out.2.2.2.2.1 ?_)
    intro v1 w1 hn1 hb1 hg1 hat1
    obtain ⟨gv, cap, rfl, hgv, hgl, hcl⟩ := Kd.N_form hn1 HZ.out
    have QB1 := Aside0.mk ((hg1.block g1.W.heap.size (Nat.lt_of_lt_of_le (blk_lt (QB.out g2)) (by simp)) (fun he => by have := blk_lt (QB.out g2); simp [Value.ownBlock] at he; omega)).trans (blk_alloc (QB.out g2) _))
    have GV := Aside0.mk (show w.heap.size ≤ gv ∧ gv ≠ w.heap.size from ⟨hgv, fun he => by
      obtain ⟨cells, hc⟩ := hcl
      have hpb := (hg1.block w.heap.size (Nat.lt_of_lt_of_le (blk_lt (P2.out g2)) (by simp)) (fun he => by have := blk_lt (P2.out g2); simp [Value.ownBlock] at he; omega)).trans (blk_alloc (P2.out g2) _)
      rw [he] at hc
      have := hc.symm.trans hpb
      injection this with this
      injection this with _ this
      exact absurd this (by decide)⟩)
    have NE := Aside0.mk (show gv ≠ g1.W.heap.size from fun he => by
      obtain ⟨cells, hc⟩ := hcl
      rw [he] at hc
      have := hc.symm.trans QB1.out
      injection this with this
      injection this with _ this
      exact absurd this (by decide))
    have PB := Aside0.mk ((hg1.block w.heap.size (Nat.lt_of_lt_of_le (blk_lt (P2.out g2)) (by simp)) (fun he => by have := blk_lt (P2.out g2); simp [Value.ownBlock] at he; omega)).trans (blk_alloc (P2.out g2) _))
    have N1 := Aside0.mk (And.intro hb1 hn1)
    clear hn1 hb1 hg1 hat1 hgv hgl hcl zz
    have z3 := (blk_cell QB1.out 3).trans rfl
    have y3 := blk_frozen QB1.out 3
    go_upto_region 11 with (fail)
    obtain ⟨X1, hX⟩ : ∃ X, X = w1.setCell ⟨g1.W.heap.size, 3, none⟩ (.slice (some ⟨gv, 0, none⟩) ds.length cap) := ⟨_, rfl⟩
    rw [← hX]
    have H1 := Aside0.mk (show Below w.heap.size w X1 ∧ X1.heap[g1.W.heap.size]? = some (.cells #[.string nm, .int .i64 wd, .int .i64 ln, .slice (some ⟨gv, 0, none⟩) ds.length cap, .slice A4 bd.length c4] 29 (0, 0)) ∧ Kd.N k44 44 X1 w.heap.size (fun b => b ≠ g1.W.heap.size) (.slice (some ⟨gv, 0, none⟩) ds.length cap) ds ∧ X1.heap[w.heap.size]? = some (.cells #[.string nm, .int .i64 wd, .int .i64 ln, .slice (some ad) ds.length c3, .slice A4 bd.length c4] 29 (0, 0)) from by
      rw [hX]
      exact ⟨N1.out.1.setCell (p := ⟨g1.W.heap.size, 3, none⟩) WG1.out.size _, blk_put QB1.out 3 _ rfl, Kd.N_far N1.out.2 (fun b hb => hb) _, (Below.heap_setCell _ _ _ _ (show w.heap.size ≠ g1.W.heap.size from Nat.ne_of_lt (blk_lt (blk_below (blk_new w (.cells #[.string nm, .int .i64 wd, .int .i64 ln, .slice (some ad) ds.length c3, .slice A4 bd.length c4] 29)) g1.below)))).trans PB.out⟩)
    clear hX z3 y3
    obtain ⟨A6, c6, n0, n1, n2, n3, ln3, gn3, fz⟩ := N44_at H1.out.2.2.1 HK.out
    have z3 := (blk_cell H1.out.2.1 3).trans rfl
    have y1 := fz 1
    clear n0 n2 n3 ln3 gn3 fz
    go_upto_region 12 with (fail)
    clear z3 y1 n1
    obtain ⟨X2, hX⟩ : ∃ X, X = X1.setCell ⟨gv, kk * 4 + 1, none⟩ (.string tw) := ⟨_, rfl⟩
    rw [← hX]
    have H2 := Aside0.mk (show Below w.heap.size w X2 ∧ X2.heap[g1.W.heap.size]? = some (.cells #[.string nm, .int .i64 wd, .int .i64 ln, .slice (some ⟨gv, 0, none⟩) ds.length cap, .slice A4 bd.length c4] 29 (0, 0)) ∧ Kd.N k44 44 X2 w.heap.size (fun b => b ≠ g1.W.heap.size) (.slice (some ⟨gv, 0, none⟩) ds.length cap) (rnDs tw kk ds) ∧ X2.heap[w.heap.size]? = some (.cells #[.string nm, .int .i64 wd, .int .i64 ln, .slice (some ad) ds.length c3, .slice A4 bd.length c4] 29 (0, 0)) from by
      rw [hX]
      exact ⟨H1.out.1.setCell (p := ⟨gv, kk * 4 + 1, none⟩) GV.out.1 _, (Below.heap_setCell _ _ _ _ (fun h => NE.out h.symm)).trans H1.out.2.1, N44_set1 H1.out.2.2.1 HK.out tw, (Below.heap_setCell _ _ _ _ (fun h => GV.out.2 h.symm)).trans H1.out.2.2.2⟩)
    clear hX
    refine wp_grown0 ?_
    intro g3
    have p4 : ∀ g : G (gw0 g3), g.W.cell? ⟨w.heap.size, 4, none⟩ = some (.slice A4 bd.length c4) := fun g => (blk_cell (blk_below H2.out.2.2.2 g.below) 4).trans rfl
    have z4 : ∀ g : G (gw0 g3), g.W.cell? ⟨g1.W.heap.size, 4, none⟩ = some (.slice A4 bd.length c4) := fun g => (blk_cell (blk_below H2.out.2.1 g.below) 4).trans rfl
    have y4 : ∀ g : G (gw0 g3), g.W.frozen? ⟨g1.W.heap.size, 4, none⟩ = false := fun g => blk_frozen (blk_below H2.out.2.1 g.below) 4
    have WG3 := Aside0.mk (show ∀ g : G (gw0 g3), Below w.heap.size w g.W from fun g => H2.out.1.trans (g.below.mono H2.out.1.size))
    have CB := Aside0.mk (calledBody_calls fr tw _ bd (Nat.le_refl _) HG.out.good.bl ((Ot.goodTs_iff bd).2 HG.out.good.bd) A4 c4 g3.W (Kd.C_below PAt.out.hb (WG3.out g3)) PAt.out.hlb)
    go_upto_region 13 with (go_at_call 22; refine CB.out.mono ?_; rintro _ w9 ⟨v9, rfl, hR, hb⟩; obtain ⟨Av, cv, hv⟩ := Kd.R_slice hR; have HR9 := Aside0.mk (And.intro hv (And.intro hR hb)); clear hR hb; subst hv; obtain ⟨g9, hg9⟩ : ∃ g : G (gw0 g3), g.W = w9 := ⟨mkG (g3.below.trans (HR9.out.2.2.mono g3.below.size)), rfl⟩; subst hg9)
    obtain ⟨X3, hX⟩ : ∃ X, X = g9.W.setCell ⟨g1.W.heap.size, 4, none⟩ (.slice Av (rnTs fr tw bd).length cv) := ⟨_, rfl⟩
    rw [← hX]
    clear p4 z4 y4
    have H3 := Aside0.mk (show Below w.heap.size w X3 ∧ X3.heap[w.heap.size]? = some (.cells #[.string nm, .int .i64 wd, .int .i64 ln, .slice (some ad) ds.length c3, .slice A4 bd.length c4] 29 (0, 0)) ∧ X3.heap[g1.W.heap.size]? = some (.cells #[.string nm, .int .i64 wd, .int .i64 ln, .slice (some ⟨gv, 0, none⟩) ds.length cap, .slice Av (rnTs fr tw bd).length cv] 29 (0, 0)) ∧ ProgAt X3 (rnDs tw kk ds) (rnTs fr tw bd) (some ⟨gv, 0, none⟩) cap Av cv from by
      have hq := blk_below H2.out.2.1 g9.below
      rw [hX]
      refine ⟨(WG3.out g9).setCell (p := ⟨g1.W.heap.size, 4, none⟩) WG1.out.size _, (Below.heap_setCell _ _ _ _ (show w.heap.size ≠ g1.W.heap.size from Nat.ne_of_lt (blk_lt (blk_below (blk_new w (.cells #[.string nm, .int .i64 wd, .int .i64 ln, .slice (some ad) ds.length c3, .slice A4 bd.length c4] 29)) g1.below)))).trans (blk_below H2.out.2.2.2 g9.below), blk_put hq 4 _ rfl, ?_⟩
      have hd := Kd.N_reads' (Kd.N_far (p := ⟨g1.W.heap.size, 4, none⟩) (Kd.N_below H2.out.2.2.1 g9.below) (fun b hb => hb) (.slice Av (rnTs fr tw bd).length cv))
      have hbR := Kd.R_reads (Kd.R_far (p := ⟨g1.W.heap.size, 4, none⟩) (Kd.R_bound HR9.out.2.1) (fun b hb => by have := blk_lt (blk_below H2.out.2.1 g3.below); have := hb.2.1; show b ≠ g1.W.heap.size; omega) (.slice Av (rnTs fr tw bd).length cv))
      obtain ⟨A', c', e', l', C'⟩ := hbR
      injection e' with e1 _ e2
      subst e1 e2
      exact ⟨hd.2.2, by rw [← hd.1]; exact hd.2.1, C', l'⟩)
    have HSZ := Aside0.mk (show w.heap.size ≤ X3.heap.size from H3.out.1.size)
    clear hX
    have HR1 := Aside0.mk (show (faultS nm wd ln ds bd).e = 0 from by rw [← HF.out]; exact HE.out)
    have HQ := Aside0.mk (show (⟨0, 0, 0⟩ : Ans) = faultS nm wd ln (rnDs tw kk ds) (rnTs fr tw bd) from by rw [HFR.out]; exact (called_law HK.out HN.out HFI.out HS.out HR1.out).symm)
    have HQ2 := Aside0.mk (show (((sizeB bd : Nat) : Int), (0 : Int)) = sizeS 1099511627776 nm wd ln (rnDs tw kk ds) (rnTs fr tw bd) from by
      have h := size_right (nm := nm) (wd := wd) (ln := ln) (ds := rnDs tw kk ds) (bd := rnTs fr tw bd) (by rw [← HQ.out])
      rw [sizeB_rn] at h
      exact h)
    have HGQ := Aside0.mk (show PGood nm wd ln (rnDs tw kk ds) (rnTs fr tw bd) from (HG.out.set HK.out (HG.out.good.ds _ (rd44_mem (l := ds) HK.out)).1 HTW.out).body HTW.out)
    refine wp_grown0 ?_
    intro g4
    have WG4 := Aside0.mk (show ∀ g : G (gw0 g4), Below w.heap.size w g.W from fun g => H3.out.1.trans (g.below.mono HSZ.out))
    have p0 : ∀ g : G (gw0 g4), g.W.cell? ⟨w.heap.size, 0, none⟩ = some (.string nm) := fun g => (blk_cell (blk_below H3.out.2.1 g.below) 0).trans rfl
    have p1 : ∀ g : G (gw0 g4), g.W.cell? ⟨w.heap.size, 1, none⟩ = some (.int .i64 wd) := fun g => (blk_cell (blk_below H3.out.2.1 g.below) 1).trans rfl
    have p2 : ∀ g : G (gw0 g4), g.W.cell? ⟨w.heap.size, 2, none⟩ = some (.int .i64 ln) := fun g => (blk_cell (blk_below H3.out.2.1 g.below) 2).trans rfl
    have p3 : ∀ g : G (gw0 g4), g.W.cell? ⟨w.heap.size, 3, none⟩ = some (.slice (some ad) ds.length c3) := fun g => (blk_cell (blk_below H3.out.2.1 g.below) 3).trans rfl
    have p4 : ∀ g : G (gw0 g4), g.W.cell? ⟨w.heap.size, 4, none⟩ = some (.slice A4 bd.length c4) := fun g => (blk_cell (blk_below H3.out.2.1 g.below) 4).trans rfl
    have z0 : ∀ g : G (gw0 g4), g.W.cell? ⟨g1.W.heap.size, 0, none⟩ = some (.string nm) := fun g => (blk_cell (blk_below H3.out.2.2.1 g.below) 0).trans rfl
    have z1 : ∀ g : G (gw0 g4), g.W.cell? ⟨g1.W.heap.size, 1, none⟩ = some (.int .i64 wd) := fun g => (blk_cell (blk_below H3.out.2.2.1 g.below) 1).trans rfl
    have z2 : ∀ g : G (gw0 g4), g.W.cell? ⟨g1.W.heap.size, 2, none⟩ = some (.int .i64 ln) := fun g => (blk_cell (blk_below H3.out.2.2.1 g.below) 2).trans rfl
    have z3 : ∀ g : G (gw0 g4), g.W.cell? ⟨g1.W.heap.size, 3, none⟩ = some (.slice (some ⟨gv, 0, none⟩) (rnDs tw kk ds).length cap) := fun g => (blk_cell (blk_below H3.out.2.2.1 g.below) 3).trans (by rw [rnDs_len]; rfl)
    have z4 : ∀ g : G (gw0 g4), g.W.cell? ⟨g1.W.heap.size, 4, none⟩ = some (.slice Av (rnTs fr tw bd).length cv) := fun g => (blk_cell (blk_below H3.out.2.2.1 g.below) 4).trans rfl
    go_wp2_with fail
    refine (call_of (g := g4) (size_calls nm wd ln ds bd (some ad) c3 A4 c4 g4.W (PAt.out.below (WG4.out g4)) HG.out _ (size_right HR1.out))).mono ?_
    rintro _ _ ⟨rfl, g4, rfl⟩
    go_wp2_with fail
    refine (call_of (g := g4) (size_calls nm wd ln (rnDs tw kk ds) (rnTs fr tw bd) (some ⟨gv, 0, none⟩) cap Av cv g4.W (H3.out.2.2.2.below g4.below) HGQ.out _ HQ2.out)).mono ?_
    rintro _ _ ⟨rfl, g4, rfl⟩
    go_wp2_with fail
    refine (call_of (g := g4) (no_calls _ g4.W)).mono ?_
    rintro _ _ ⟨rfl, g4, rfl⟩
    go_wp2_with fail
    refine (call_of (g := g4) (no_calls _ g4.W)).mono ?_
    rintro _ _ ⟨rfl, g4, rfl⟩
    go_wp2_with fail
    refine (call_of (g := g4) (check_calls nm wd ln (rnDs tw kk ds) (rnTs fr tw bd) (some ⟨gv, 0, none⟩) cap Av cv g4.W (H3.out.2.2.2.below g4.below) HGQ.out _ HQ.out)).mono ?_
    rintro _ _ ⟨rfl, g4, rfl⟩
    go_wp2_with fail
    refine (call_of (g := g4) (no_calls _ g4.W)).mono ?_
    rintro _ _ ⟨rfl, g4, rfl⟩
    go_wp2_with fail
    go_ret
    exact ⟨rfl, WG4.out _⟩
theorem wfCalled_law (v0 : Value) (x0 : Ot.Prog) (a1 : Int) (a2 : ByteArray) (w : World) (s0 : ∃ cs, v0 = .agg cs ∧ cs.size = Try.prog.cellsOf 29) (k0 : Ot.opensP_K w x0 v0.cells.toList) (g0 : Ot.opensP_good x0) {m0 m1 m2 : Nat} (b0 : Ot.opensP_bulk x0 ≤ m0) (w1 : (Lit.int .i64 a1).wf = true) (w2 : a2.size ≤ 140737488351232) (up : m0 + m1 + m2 ≤ 1048576) :
    Calls Try.prog 6 #[v0, .int .i64 a1, .string a2] w fun e w' => e = .returned (.bool true) ∧ Below w.heap.size w w' := by
  obtain ⟨A3, c3, A4, c4, rfl, l3, g3, l4, g4⟩ := Ot.prog_of_K (s0.imp fun _ h => h.1) k0
  exact wfCalled_walk x0.nm x0.wd x0.ln x0.ds x0.bd A3 c3 A4 c4 a1 a2 w ⟨g3, l3, g4, l4⟩ ⟨g0, Nat.le_trans b0 (by omega)⟩ w2
end Go.Proofs.Ytfcahachdpjfoaa.L
end
