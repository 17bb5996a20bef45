/- Texts joined by a program of mine: Te Tb Tf Ti Ev Vb Vc Vd Ve Vf Ua Ub Uc Ud Ui Uj Uk Lt Ul Um Un Uo Up Ue Uf. -/
import Derived.Defers
import Derived.Recover
import Derived.Laws.Pointers
import Derived.Test.YtfigjpehecibeaaGreatZe2
open And renaming intro -> ae
open Bool renaming false -> J, true -> af, and_eq_true -> bo, true_and -> jy, false_and -> jb, false_eq_true -> jv
open Decidable renaming em -> gh
open Go.Act renaming put -> ax
open Go.Ending renaming returned -> fw
open Go.IntKind renaming bits -> ik, signed -> jg
open Go.Proofs.Tryz renaming prog -> ak
open Go.Proofs.YtfigjpehecibeaaGreatW.PrintWords.Aside0 renaming mk -> I
open Go.RowKit.Below renaming refl -> aq, heap_setCell -> dw, heap_alloc -> gn
open Go.Value renaming int -> ba, ownBlock -> dh
open Go.World renaming setCell -> iu, block_lt_of_cell? -> aj
open Int renaming natCast_nonneg -> bc, toNat_natCast -> av, eq_ofNat_of_zero_le -> dn, lt_or_le -> cu
open List renaming take_zero -> jq, take_length -> di, setIfInBounds_toArray -> aa, set_cons_zero -> ah, set_cons_succ -> ai, length_append -> ay, length_singleton -> bk, length_take -> cn, any_cons -> jn, cons_append -> gq, length_cons -> iv, append_assoc -> dr, mem_cons_self -> ji, any_append -> gr, isEmpty_iff -> gp, all_eq_true -> dz, sizeOf_lt_of_mem -> eu, range -> br, range_succ -> js, map_append -> fg, getD_eq_getElem?_getD -> au, getElem?_eq_getElem -> az, getElem_mem -> ef, mem_range -> ja, mem_cons -> gi, map_toArray -> cb, map_cons -> cm, map_nil -> cw, getElem?_take -> jt, getElem_of_mem -> fz
open Nat renaming zero_le -> bi, le_refl -> ar, ne_of_lt -> jh, lt_of_lt_of_le -> bq, le_trans -> bh, ne_of_gt -> ee, not_lt -> jj, min_eq_left -> cy, add_zero -> fq, add_assoc -> ic, le_succ -> iy, not_lt_zero -> cq, eq_zero_or_pos -> cf, min_eq_right -> iw, mul_one -> gu
open Option renaming some -> ac, none -> ag
open Or renaming inl -> bg
open SizeOf renaming sizeOf -> cd
set_option linter.unusedVariables false
set_option linter.unusedSimpArgs false
set_option maxHeartbeats 8000000
namespace Go.Proofs.YtfigjpehecibeaaGreat.L
open Go.RowKit Go.Proofs.YtfigjpehecibeaaGreatW.PrintWords Go.Proofs.YtfigjpehecibeaaGreatW.PrintLast Go.Proofs.YtfigjpehecibeaaGreatW.PrintMore Go.Proofs.YtfigjpehecibeaaGreat.Gr
section
attribute [local go_sem] G.cell
def OwnBC (l : List S119) : Prop := ∀ (A : Option Addr) (c : Nat) (w : World), dC.C w A l.length l -> l.length <= c ->
 Calls ak 112 #[.slice A l.length c] w fun r w' => ∃ v, r = .returned v /\ dC.R 119 w' w.heap.size (fun _ => True) v l /\ Below w.heap.size w w'
set_option maxRecDepth 100000 in
theorem ownB_walk (l : List S119) (hn : l.length * 200 <= 140737488351232) (hg : ∀ x ∈ l, Ot.jE x) (ih : ∀ x ∈ l, OwnBC x.f6 /\ OwnBC x.f7) : OwnBC l := by
 intro A c w hc hl
 have IH := I ih
 have HC := I hc
 have HN := I hn
 have HG := I hg
 have hlm := hc.2.1
 clear ih hc hg hn
 go_enter Tryz.func112, Tryz.ntmps112
 go_wp2_with fail
 go_loopw [4, 3] (fun i v W => ∃ (k : Nat) (vo : Value), i = .int .i64 k /\ vo = v /\ k <= l.length /\ Aside0 (Below w.heap.size w W /\ dC.R 119 W w.heap.size (fun _ => True) vo (l.take k))) (fun i _ _ => l.length - (intOf i).toNat)
 case atStart => exact ⟨0, _, rfl, rfl, bi _, ⟨aq _ _, by rw [jq]; exact Kd.jN _ _ _ _ _⟩⟩
 case round =>
  obtain ⟨k, vo, rfl, rfl, hk, HREL⟩ := hrel
  by_cases hlt : k < l.length
  ·obtain ⟨ad, A5, c5, A9, c9, A12, c12, A13, c13, e1, q0, q1, q2, q3, q4, q5, q6, q7, q8, q9, q10, q11, q12, q13, l5, g5, l9, g9, l12, g12, l13, g13⟩ := gV HC.out (k : Int) (bc _) (by omega)
   cases e1
   rw [av] at q0 q1 q2 q3 q4 q5 q6 q7 q8 q9 q10 q11 q12 q13
   replace q0 := aE HREL.out.1 q0
   replace q1 := aE HREL.out.1 q1
   replace q2 := aE HREL.out.1 q2
   replace q3 := aE HREL.out.1 q3
   replace q4 := aE HREL.out.1 q4
   replace q5 := aE HREL.out.1 q5
   replace q6 := aE HREL.out.1 q6
   replace q7 := aE HREL.out.1 q7
   replace q8 := aE HREL.out.1 q8
   replace q9 := aE HREL.out.1 q9
   replace q10 := aE HREL.out.1 q10
   replace q11 := aE HREL.out.1 q11
   replace q12 := aE HREL.out.1 q12
   replace q13 := aE HREL.out.1 q13
   have hi1 : (k : Int) < (l.length : Int) := by omega
   have K := I (ae l5 (ae g5 (ae l9 (ae g9 (ae l12 (ae g12 (ae l13 g13)))))))
   clear l5 g5 l9 g9 l12 g12 l13 g13
   have IH1 := I (IH.out _ (mH hlt))
   have GT := I (HG.out _ (mH hlt))
   have T := I (fA hlt)
   generalize aQ l (k : Int) = y at *
   have GE := I (show Ot.kU y.f2 /\ Ot.kU y.f3 from by obtain ⟨a, s, e, f, lo, hi, th, el⟩ := y; have h := GT.out; rw [Ot.jE] at h; exact ⟨h.2.2.1, h.2.2.2.1⟩)
   have C5 := fun W (h : Below w.heap.size w W) => ownE_calls _ y.f2 (ar _) GE.out.1 A5 c5 W (Kd.aF K.out.2.1 h) K.out.1
   have C9 := fun W (h : Below w.heap.size w W) => ownE_calls _ y.f3 (ar _) GE.out.2 A9 c9 W (Kd.aF K.out.2.2.2.1 h) K.out.2.2.1
   have C12 := fun W (h : Below w.heap.size w W) => IH1.out.1 A12 c12 W (Kd.aF K.out.2.2.2.2.2.1 h) K.out.2.2.2.2.1
   have C13 := fun W (h : Below w.heap.size w W) => IH1.out.2 A13 c13 W (Kd.aF K.out.2.2.2.2.2.2.2 h) K.out.2.2.2.2.2.2.1
   have CS := I (ae C5 (ae C9 (ae C12 C13)))
   clear C5 C9 C12 C13
   go_upto_region 6 with (fail)
   ·obtain ⟨wc, hwc⟩ : ∃ wc, wc = wr.alloc (.cells #[.int .i64 y.f0, .string y.f1, .int .i64 y.f2.f0, .int .u64 y.f2.f1, .string y.f2.f2, .slice A5 y.f2.f3.length c5, .int .i64 y.f3.f0, .int .u64 y.f3.f1, .string y.f3.f2, .slice A9 y.f3.f3.length c9, .int .u64 y.f4, .int .u64 y.f5, .slice A12 y.f6.length c12, .slice A13 y.f7.length c13] 119) := ⟨_, rfl⟩
    rw [<- hwc]
    clear q0 q1 q2 q3 q4 q5 q6 q7 q8 q9 q10 q11 q12 q13
    have B0 := I (HREL.out.1)
    have hbk : wc.heap[wr.heap.size]? = ac (.cells #[.int .i64 y.f0, .string y.f1, .int .i64 y.f2.f0, .int .u64 y.f2.f1, .string y.f2.f2, .slice A5 y.f2.f3.length c5, .int .i64 y.f3.f0, .int .u64 y.f3.f1, .string y.f3.f2, .slice A9 y.f3.f3.length c9, .int .u64 y.f4, .int .u64 y.f5, .slice A12 y.f6.length c12, .slice A13 y.f7.length c13] 119 (0, 0)) := hwc ▸ aV wr _
    have hbl : Below wr.heap.size wr wc := hwc ▸ (aq _ _).alloc (ar _) _
    clear hwc
    have HRO := I (Kd.bK HREL.out.2 hbl)
    have OB := I (show ∀ b, vo.ownBlock = ac b -> b < wr.heap.size from by obtain ⟨_, inner, ho, _⟩ := HREL.out.2; exact fun b hb => qU ho b hb)
    have KB := I hbk
    have BL := I hbl
    clear hbk hbl
    refine aH ?_
    intro gg
    have z2 : ∀ g : G wc, g.W.cell? ⟨wr.heap.size, 2, ag⟩ = ac (.int .i64 y.f2.f0) := fun g => (aA (aB KB.out g.below) 2).trans rfl
    have f2 : ∀ g : G wc, g.W.frozen? ⟨wr.heap.size, 2, ag⟩ = J := fun g => aI (aB KB.out g.below) 2
    have z3 : ∀ g : G wc, g.W.cell? ⟨wr.heap.size, 3, ag⟩ = ac (.int .u64 y.f2.f1) := fun g => (aA (aB KB.out g.below) 3).trans rfl
    have f3 : ∀ g : G wc, g.W.frozen? ⟨wr.heap.size, 3, ag⟩ = J := fun g => aI (aB KB.out g.below) 3
    have z4 : ∀ g : G wc, g.W.cell? ⟨wr.heap.size, 4, ag⟩ = ac (.string y.f2.f2) := fun g => (aA (aB KB.out g.below) 4).trans rfl
    have f4 : ∀ g : G wc, g.W.frozen? ⟨wr.heap.size, 4, ag⟩ = J := fun g => aI (aB KB.out g.below) 4
    have z5 : ∀ g : G wc, g.W.cell? ⟨wr.heap.size, 5, ag⟩ = ac (.slice A5 y.f2.f3.length c5) := fun g => (aA (aB KB.out g.below) 5).trans rfl
    have f5 : ∀ g : G wc, g.W.frozen? ⟨wr.heap.size, 5, ag⟩ = J := fun g => aI (aB KB.out g.below) 5
    have WB : ∀ g : G wc, Below w.heap.size w g.W := fun g => (B0.out.trans (BL.out.mono B0.out.size)).trans (g.below.mono (B0.out.trans (BL.out.mono B0.out.size)).size)
    go_upto_region 7 with (go_at_call 152; refine (CS.out.1 gg.W (WB gg)).mono ?_; rintro _ w9 ⟨v9, rfl, hR, hb⟩; obtain ⟨Av5, cv5, rfl⟩ := Kd.cD hR; have HR5 := I (ae hR hb); clear hR hb; obtain ⟨g9, hg9⟩ : ∃ g : G wc, g.W = w9 := ⟨mkG (gg.below.trans (HR5.out.2.mono gg.below.size)), rfl⟩; subst hg9)
    clear z2 f2 z3 f3 z4 f4 z5 f5
    obtain ⟨X5, hX⟩ : ∃ X, X = ((((g9.W.setCell ⟨wr.heap.size, 2, ag⟩ (.int .i64 y.f2.f0)).setCell ⟨wr.heap.size, 3, ag⟩ (.int .u64 y.f2.f1)).setCell ⟨wr.heap.size, 4, ag⟩ (.string y.f2.f2)).setCell ⟨wr.heap.size, 5, ag⟩ (.slice Av5 y.f2.f3.length cv5)) := ⟨_, rfl⟩
    rw [<- hX]
    have KB2 := I (show X5.heap[wr.heap.size]? = ac (.cells #[.int .i64 y.f0, .string y.f1, .int .i64 y.f2.f0, .int .u64 y.f2.f1, .string y.f2.f2, .slice Av5 y.f2.f3.length cv5, .int .i64 y.f3.f0, .int .u64 y.f3.f1, .string y.f3.f2, .slice A9 y.f3.f3.length c9, .int .u64 y.f4, .int .u64 y.f5, .slice A12 y.f6.length c12, .slice A13 y.f7.length c13] 119 (0, 0)) from hX ▸ (bQ (bQ (bQ (bQ (aB KB.out g9.below) 2 _ rfl) 3 _ rfl) 4 _ rfl) 5 _ rfl))
    have BL2 := I (show Below wr.heap.size wr X5 from by rw [hX]; exact (((((BL.out.trans (g9.below.mono BL.out.size)).setCell (p := ⟨wr.heap.size, 2, ag⟩) (ar _) _).setCell (p := ⟨wr.heap.size, 3, ag⟩) (ar _) _).setCell (p := ⟨wr.heap.size, 4, ag⟩) (ar _) _).setCell (p := ⟨wr.heap.size, 5, ag⟩) (ar _) _))
    have HRO2 := I (show dC.R 119 X5 w.heap.size (fun b => b < wr.heap.size) vo (l.take k) from hX ▸ (Kd.cJ (Kd.cJ (Kd.cJ (Kd.cJ (Kd.bK (Kd.eD (Kd.eG HREL.out.2) (fun b hb => hb.2.2.1)) (BL.out.trans (g9.below.mono BL.out.size))) (p := ⟨wr.heap.size, 2, ag⟩) (fun b hb => jh hb) _) (p := ⟨wr.heap.size, 3, ag⟩) (fun b hb => jh hb) _) (p := ⟨wr.heap.size, 4, ag⟩) (fun b hb => jh hb) _) (p := ⟨wr.heap.size, 5, ag⟩) (fun b hb => jh hb) _))
    have HQ52 := I (show cQ.R 116 X5 w.heap.size (fun b => wr.heap.size < b) _ (y.f2.f3) from hX ▸ (Kd.cJ (Kd.cJ (Kd.cJ (Kd.cJ (Kd.fX (Kd.eD (Kd.eG HR5.out.1) (fun b hb => bq (aW KB.out) (bh gg.below.size hb.2.1))) (WB gg).size) (p := ⟨wr.heap.size, 2, ag⟩) (fun b hb => ee hb) _) (p := ⟨wr.heap.size, 3, ag⟩) (fun b hb => ee hb) _) (p := ⟨wr.heap.size, 4, ag⟩) (fun b hb => ee hb) _) (p := ⟨wr.heap.size, 5, ag⟩) (fun b hb => ee hb) _))
    clear hX HR5 g9 gg WB KB BL HRO
    have KB := KB2
    clear KB2
    have BL := BL2
    clear BL2
    have HRO := HRO2
    clear HRO2
    have HQ5 := HQ52
    clear HQ52
    refine aH ?_
    intro gg
    have z6 : ∀ g : G X5, g.W.cell? ⟨wr.heap.size, 6, ag⟩ = ac (.int .i64 y.f3.f0) := fun g => (aA (aB KB.out g.below) 6).trans rfl
    have f6 : ∀ g : G X5, g.W.frozen? ⟨wr.heap.size, 6, ag⟩ = J := fun g => aI (aB KB.out g.below) 6
    have z7 : ∀ g : G X5, g.W.cell? ⟨wr.heap.size, 7, ag⟩ = ac (.int .u64 y.f3.f1) := fun g => (aA (aB KB.out g.below) 7).trans rfl
    have f7 : ∀ g : G X5, g.W.frozen? ⟨wr.heap.size, 7, ag⟩ = J := fun g => aI (aB KB.out g.below) 7
    have z8 : ∀ g : G X5, g.W.cell? ⟨wr.heap.size, 8, ag⟩ = ac (.string y.f3.f2) := fun g => (aA (aB KB.out g.below) 8).trans rfl
    have f8 : ∀ g : G X5, g.W.frozen? ⟨wr.heap.size, 8, ag⟩ = J := fun g => aI (aB KB.out g.below) 8
    have z9 : ∀ g : G X5, g.W.cell? ⟨wr.heap.size, 9, ag⟩ = ac (.slice A9 y.f3.f3.length c9) := fun g => (aA (aB KB.out g.below) 9).trans rfl
    have f9 : ∀ g : G X5, g.W.frozen? ⟨wr.heap.size, 9, ag⟩ = J := fun g => aI (aB KB.out g.below) 9
    have WB : ∀ g : G X5, Below w.heap.size w g.W := fun g => (B0.out.trans (BL.out.mono B0.out.size)).trans (g.below.mono (B0.out.trans (BL.out.mono B0.out.size)).size)
    go_upto_region 8 with (go_at_call 152; refine (CS.out.2.1 gg.W (WB gg)).mono ?_; rintro _ w9 ⟨v9, rfl, hR, hb⟩; obtain ⟨Av9, cv9, rfl⟩ := Kd.cD hR; have HR9 := I (ae hR hb); clear hR hb; obtain ⟨g9, hg9⟩ : ∃ g : G X5, g.W = w9 := ⟨mkG (gg.below.trans (HR9.out.2.mono gg.below.size)), rfl⟩; subst hg9)
    clear z6 f6 z7 f7 z8 f8 z9 f9
    obtain ⟨X9, hX⟩ : ∃ X, X = ((((g9.W.setCell ⟨wr.heap.size, 6, ag⟩ (.int .i64 y.f3.f0)).setCell ⟨wr.heap.size, 7, ag⟩ (.int .u64 y.f3.f1)).setCell ⟨wr.heap.size, 8, ag⟩ (.string y.f3.f2)).setCell ⟨wr.heap.size, 9, ag⟩ (.slice Av9 y.f3.f3.length cv9)) := ⟨_, rfl⟩
    rw [<- hX]
    have KB2 := I (show X9.heap[wr.heap.size]? = ac (.cells #[.int .i64 y.f0, .string y.f1, .int .i64 y.f2.f0, .int .u64 y.f2.f1, .string y.f2.f2, .slice Av5 y.f2.f3.length cv5, .int .i64 y.f3.f0, .int .u64 y.f3.f1, .string y.f3.f2, .slice Av9 y.f3.f3.length cv9, .int .u64 y.f4, .int .u64 y.f5, .slice A12 y.f6.length c12, .slice A13 y.f7.length c13] 119 (0, 0)) from hX ▸ (bQ (bQ (bQ (bQ (aB KB.out g9.below) 6 _ rfl) 7 _ rfl) 8 _ rfl) 9 _ rfl))
    have BL2 := I (show Below wr.heap.size wr X9 from by rw [hX]; exact (((((BL.out.trans (g9.below.mono BL.out.size)).setCell (p := ⟨wr.heap.size, 6, ag⟩) (ar _) _).setCell (p := ⟨wr.heap.size, 7, ag⟩) (ar _) _).setCell (p := ⟨wr.heap.size, 8, ag⟩) (ar _) _).setCell (p := ⟨wr.heap.size, 9, ag⟩) (ar _) _))
    have HRO2 := I (show dC.R 119 X9 w.heap.size (fun b => b < wr.heap.size) vo (l.take k) from hX ▸ (Kd.cJ (Kd.cJ (Kd.cJ (Kd.cJ (Kd.bK (Kd.eD (Kd.eG HREL.out.2) (fun b hb => hb.2.2.1)) (BL.out.trans (g9.below.mono BL.out.size))) (p := ⟨wr.heap.size, 6, ag⟩) (fun b hb => jh hb) _) (p := ⟨wr.heap.size, 7, ag⟩) (fun b hb => jh hb) _) (p := ⟨wr.heap.size, 8, ag⟩) (fun b hb => jh hb) _) (p := ⟨wr.heap.size, 9, ag⟩) (fun b hb => jh hb) _))
    have HQ52 := I (show cQ.R 116 X9 w.heap.size (fun b => wr.heap.size < b) _ (y.f2.f3) from hX ▸ (Kd.cJ (Kd.cJ (Kd.cJ (Kd.cJ (Kd.bK HQ5.out g9.below) (p := ⟨wr.heap.size, 6, ag⟩) (fun b hb => ee hb) _) (p := ⟨wr.heap.size, 7, ag⟩) (fun b hb => ee hb) _) (p := ⟨wr.heap.size, 8, ag⟩) (fun b hb => ee hb) _) (p := ⟨wr.heap.size, 9, ag⟩) (fun b hb => ee hb) _))
    have HQ92 := I (show cQ.R 116 X9 w.heap.size (fun b => wr.heap.size < b) _ (y.f3.f3) from hX ▸ (Kd.cJ (Kd.cJ (Kd.cJ (Kd.cJ (Kd.fX (Kd.eD (Kd.eG HR9.out.1) (fun b hb => bq (aW KB.out) (bh gg.below.size hb.2.1))) (WB gg).size) (p := ⟨wr.heap.size, 6, ag⟩) (fun b hb => ee hb) _) (p := ⟨wr.heap.size, 7, ag⟩) (fun b hb => ee hb) _) (p := ⟨wr.heap.size, 8, ag⟩) (fun b hb => ee hb) _) (p := ⟨wr.heap.size, 9, ag⟩) (fun b hb => ee hb) _))
    clear hX HR9 g9 gg WB KB BL HRO HQ5
    have KB := KB2
    clear KB2
    have BL := BL2
    clear BL2
    have HRO := HRO2
    clear HRO2
    have HQ5 := HQ52
    clear HQ52
    have HQ9 := HQ92
    clear HQ92
    refine aH ?_
    intro gg
    have z12 : ∀ g : G X9, g.W.cell? ⟨wr.heap.size, 12, ag⟩ = ac (.slice A12 y.f6.length c12) := fun g => (aA (aB KB.out g.below) 12).trans rfl
    have f12 : ∀ g : G X9, g.W.frozen? ⟨wr.heap.size, 12, ag⟩ = J := fun g => aI (aB KB.out g.below) 12
    have WB : ∀ g : G X9, Below w.heap.size w g.W := fun g => (B0.out.trans (BL.out.mono B0.out.size)).trans (g.below.mono (B0.out.trans (BL.out.mono B0.out.size)).size)
    go_upto_region 9 with (go_at_call 112; refine (CS.out.2.2.1 gg.W (WB gg)).mono ?_; rintro _ w9 ⟨v9, rfl, hR, hb⟩; obtain ⟨Av12, cv12, rfl⟩ := Kd.cD hR; have HR12 := I (ae hR hb); clear hR hb; obtain ⟨g9, hg9⟩ : ∃ g : G X9, g.W = w9 := ⟨mkG (gg.below.trans (HR12.out.2.mono gg.below.size)), rfl⟩; subst hg9)
    clear z12 f12
    obtain ⟨X12, hX⟩ : ∃ X, X = (g9.W.setCell ⟨wr.heap.size, 12, ag⟩ (.slice Av12 y.f6.length cv12)) := ⟨_, rfl⟩
    rw [<- hX]
    have KB2 := I (show X12.heap[wr.heap.size]? = ac (.cells #[.int .i64 y.f0, .string y.f1, .int .i64 y.f2.f0, .int .u64 y.f2.f1, .string y.f2.f2, .slice Av5 y.f2.f3.length cv5, .int .i64 y.f3.f0, .int .u64 y.f3.f1, .string y.f3.f2, .slice Av9 y.f3.f3.length cv9, .int .u64 y.f4, .int .u64 y.f5, .slice Av12 y.f6.length cv12, .slice A13 y.f7.length c13] 119 (0, 0)) from hX ▸ (bQ (aB KB.out g9.below) 12 _ rfl))
    have BL2 := I (show Below wr.heap.size wr X12 from by rw [hX]; exact ((BL.out.trans (g9.below.mono BL.out.size)).setCell (p := ⟨wr.heap.size, 12, ag⟩) (ar _) _))
    have HRO2 := I (show dC.R 119 X12 w.heap.size (fun b => b < wr.heap.size) vo (l.take k) from hX ▸ (Kd.cJ (Kd.bK (Kd.eD (Kd.eG HREL.out.2) (fun b hb => hb.2.2.1)) (BL.out.trans (g9.below.mono BL.out.size))) (p := ⟨wr.heap.size, 12, ag⟩) (fun b hb => jh hb) _))
    have HQ52 := I (show cQ.R 116 X12 w.heap.size (fun b => wr.heap.size < b) _ (y.f2.f3) from hX ▸ (Kd.cJ (Kd.bK HQ5.out g9.below) (p := ⟨wr.heap.size, 12, ag⟩) (fun b hb => ee hb) _))
    have HQ92 := I (show cQ.R 116 X12 w.heap.size (fun b => wr.heap.size < b) _ (y.f3.f3) from hX ▸ (Kd.cJ (Kd.bK HQ9.out g9.below) (p := ⟨wr.heap.size, 12, ag⟩) (fun b hb => ee hb) _))
    have HQ122 := I (show dC.R 119 X12 w.heap.size (fun b => wr.heap.size < b) _ (y.f6) from hX ▸ (Kd.cJ (Kd.fX (Kd.eD (Kd.eG HR12.out.1) (fun b hb => bq (aW KB.out) (bh gg.below.size hb.2.1))) (WB gg).size) (p := ⟨wr.heap.size, 12, ag⟩) (fun b hb => ee hb) _))
    clear hX HR12 g9 gg WB KB BL HRO HQ5 HQ9
    have KB := KB2
    clear KB2
    have BL := BL2
    clear BL2
    have HRO := HRO2
    clear HRO2
    have HQ5 := HQ52
    clear HQ52
    have HQ9 := HQ92
    clear HQ92
    have HQ12 := HQ122
    clear HQ122
    refine aH ?_
    intro gg
    have z13 : ∀ g : G X12, g.W.cell? ⟨wr.heap.size, 13, ag⟩ = ac (.slice A13 y.f7.length c13) := fun g => (aA (aB KB.out g.below) 13).trans rfl
    have f13 : ∀ g : G X12, g.W.frozen? ⟨wr.heap.size, 13, ag⟩ = J := fun g => aI (aB KB.out g.below) 13
    have WB : ∀ g : G X12, Below w.heap.size w g.W := fun g => (B0.out.trans (BL.out.mono B0.out.size)).trans (g.below.mono (B0.out.trans (BL.out.mono B0.out.size)).size)
    go_upto_region 10 with (go_at_call 112; refine (CS.out.2.2.2 gg.W (WB gg)).mono ?_; rintro _ w9 ⟨v9, rfl, hR, hb⟩; obtain ⟨Av13, cv13, rfl⟩ := Kd.cD hR; have HR13 := I (ae hR hb); clear hR hb; obtain ⟨g9, hg9⟩ : ∃ g : G X12, g.W = w9 := ⟨mkG (gg.below.trans (HR13.out.2.mono gg.below.size)), rfl⟩; subst hg9)
    clear z13 f13
    obtain ⟨X13, hX⟩ : ∃ X, X = (g9.W.setCell ⟨wr.heap.size, 13, ag⟩ (.slice Av13 y.f7.length cv13)) := ⟨_, rfl⟩
    rw [<- hX]
    have KB2 := I (show X13.heap[wr.heap.size]? = ac (.cells #[.int .i64 y.f0, .string y.f1, .int .i64 y.f2.f0, .int .u64 y.f2.f1, .string y.f2.f2, .slice Av5 y.f2.f3.length cv5, .int .i64 y.f3.f0, .int .u64 y.f3.f1, .string y.f3.f2, .slice Av9 y.f3.f3.length cv9, .int .u64 y.f4, .int .u64 y.f5, .slice Av12 y.f6.length cv12, .slice Av13 y.f7.length cv13] 119 (0, 0)) from hX ▸ (bQ (aB KB.out g9.below) 13 _ rfl))
    have BL2 := I (show Below wr.heap.size wr X13 from by rw [hX]; exact ((BL.out.trans (g9.below.mono BL.out.size)).setCell (p := ⟨wr.heap.size, 13, ag⟩) (ar _) _))
    have HRO2 := I (show dC.R 119 X13 w.heap.size (fun b => b < wr.heap.size) vo (l.take k) from hX ▸ (Kd.cJ (Kd.bK (Kd.eD (Kd.eG HREL.out.2) (fun b hb => hb.2.2.1)) (BL.out.trans (g9.below.mono BL.out.size))) (p := ⟨wr.heap.size, 13, ag⟩) (fun b hb => jh hb) _))
    have HQ52 := I (show cQ.R 116 X13 w.heap.size (fun b => wr.heap.size < b) _ (y.f2.f3) from hX ▸ (Kd.cJ (Kd.bK HQ5.out g9.below) (p := ⟨wr.heap.size, 13, ag⟩) (fun b hb => ee hb) _))
    have HQ92 := I (show cQ.R 116 X13 w.heap.size (fun b => wr.heap.size < b) _ (y.f3.f3) from hX ▸ (Kd.cJ (Kd.bK HQ9.out g9.below) (p := ⟨wr.heap.size, 13, ag⟩) (fun b hb => ee hb) _))
    have HQ122 := I (show dC.R 119 X13 w.heap.size (fun b => wr.heap.size < b) _ (y.f6) from hX ▸ (Kd.cJ (Kd.bK HQ12.out g9.below) (p := ⟨wr.heap.size, 13, ag⟩) (fun b hb => ee hb) _))
    have HQ132 := I (show dC.R 119 X13 w.heap.size (fun b => wr.heap.size < b) _ (y.f7) from hX ▸ (Kd.cJ (Kd.fX (Kd.eD (Kd.eG HR13.out.1) (fun b hb => bq (aW KB.out) (bh gg.below.size hb.2.1))) (WB gg).size) (p := ⟨wr.heap.size, 13, ag⟩) (fun b hb => ee hb) _))
    clear hX HR13 g9 gg WB KB BL HRO HQ5 HQ9 HQ12
    have KB := KB2
    clear KB2
    have BL := BL2
    clear BL2
    have HRO := HRO2
    clear HRO2
    have HQ5 := HQ52
    clear HQ52
    have HQ9 := HQ92
    clear HQ92
    have HQ12 := HQ122
    clear HQ122
    have HQ13 := HQ132
    clear HQ132
    refine aH ?_
    intro gg
    have z0 : ∀ g : G X13, g.W.cell? ⟨wr.heap.size, 0, ag⟩ = ac (.int .i64 y.f0) := fun g => (aA (aB KB.out g.below) 0).trans rfl
    have z1 : ∀ g : G X13, g.W.cell? ⟨wr.heap.size, 1, ag⟩ = ac (.string y.f1) := fun g => (aA (aB KB.out g.below) 1).trans rfl
    have z2 : ∀ g : G X13, g.W.cell? ⟨wr.heap.size, 2, ag⟩ = ac (.int .i64 y.f2.f0) := fun g => (aA (aB KB.out g.below) 2).trans rfl
    have z3 : ∀ g : G X13, g.W.cell? ⟨wr.heap.size, 3, ag⟩ = ac (.int .u64 y.f2.f1) := fun g => (aA (aB KB.out g.below) 3).trans rfl
    have z4 : ∀ g : G X13, g.W.cell? ⟨wr.heap.size, 4, ag⟩ = ac (.string y.f2.f2) := fun g => (aA (aB KB.out g.below) 4).trans rfl
    have z5 : ∀ g : G X13, g.W.cell? ⟨wr.heap.size, 5, ag⟩ = ac (.slice Av5 y.f2.f3.length cv5) := fun g => (aA (aB KB.out g.below) 5).trans rfl
    have z6 : ∀ g : G X13, g.W.cell? ⟨wr.heap.size, 6, ag⟩ = ac (.int .i64 y.f3.f0) := fun g => (aA (aB KB.out g.below) 6).trans rfl
    have z7 : ∀ g : G X13, g.W.cell? ⟨wr.heap.size, 7, ag⟩ = ac (.int .u64 y.f3.f1) := fun g => (aA (aB KB.out g.below) 7).trans rfl
    have z8 : ∀ g : G X13, g.W.cell? ⟨wr.heap.size, 8, ag⟩ = ac (.string y.f3.f2) := fun g => (aA (aB KB.out g.below) 8).trans rfl
    have z9 : ∀ g : G X13, g.W.cell? ⟨wr.heap.size, 9, ag⟩ = ac (.slice Av9 y.f3.f3.length cv9) := fun g => (aA (aB KB.out g.below) 9).trans rfl
    have z10 : ∀ g : G X13, g.W.cell? ⟨wr.heap.size, 10, ag⟩ = ac (.int .u64 y.f4) := fun g => (aA (aB KB.out g.below) 10).trans rfl
    have z11 : ∀ g : G X13, g.W.cell? ⟨wr.heap.size, 11, ag⟩ = ac (.int .u64 y.f5) := fun g => (aA (aB KB.out g.below) 11).trans rfl
    have z12 : ∀ g : G X13, g.W.cell? ⟨wr.heap.size, 12, ag⟩ = ac (.slice Av12 y.f6.length cv12) := fun g => (aA (aB KB.out g.below) 12).trans rfl
    have z13 : ∀ g : G X13, g.W.cell? ⟨wr.heap.size, 13, ag⟩ = ac (.slice Av13 y.f7.length cv13) := fun g => (aA (aB KB.out g.below) 13).trans rfl
    have HM := I (show ∀ g : G X13, dC.M g.W w.heap.size (fun b => wr.heap.size < b) y [.int .i64 y.f0, .string y.f1, .int .i64 y.f2.f0, .int .u64 y.f2.f1, .string y.f2.f2, .slice Av5 y.f2.f3.length cv5, .int .i64 y.f3.f0, .int .u64 y.f3.f1, .string y.f3.f2, .slice Av9 y.f3.f3.length cv9, .int .u64 y.f4, .int .u64 y.f5, .slice Av12 y.f6.length cv12, .slice Av13 y.f7.length cv13] from fun g => k119_mkM g.W w.heap.size _ y (Kd.bK HQ5.out g.below) (Kd.bK HQ9.out g.below) (Kd.bK HQ12.out g.below) (Kd.bK HQ13.out g.below))
    have WB : ∀ g : G X13, Below w.heap.size w g.W := fun g => (B0.out.trans (BL.out.mono B0.out.size)).trans (g.below.mono (B0.out.trans (BL.out.mono B0.out.size)).size)
    go_wp2_with (at_builtin; refine Kd.cW dC (w0 := w) w.heap.size rfl (.tmp 32) (.tmp 34) 23 119 zSt 200 rfl under27 info77 rfl (show 0 < 14 by decide) (by decide) vo (l.take k) y [.int .i64 y.f0, .string y.f1, .int .i64 y.f2.f0, .int .u64 y.f2.f1, .string y.f2.f2, .slice Av5 y.f2.f3.length cv5, .int .i64 y.f3.f0, .int .u64 y.f3.f1, .string y.f3.f2, .slice Av9 y.f3.f3.length cv9, .int .u64 y.f4, .int .u64 y.f5, .slice Av12 y.f6.length cv12, .slice Av13 y.f7.length cv13] (fun _ => True) (fun b => wr.heap.size < b) rfl rfl (HM.out gg) (fun b hb => ⟨trivial, fM OB.out (Nat.le_of_lt hb)⟩) (fun _ _ => trivial) (Kd.eD (Kd.bK HRO.out gg.below) (fun _ _ => trivial)) (WB gg) (WB gg).size (by have := HN.out; have := List.length_take_le k l; omega) ?_)
    intro v1 w1 hr1 hb1 hg1 hat1
    obtain ⟨Av1, cv1, rfl⟩ := Kd.cD hr1
    have H1 := I (ae hb1 hr1)
    clear hr1 hb1 hg1 hat1
    go_wp2_with fail
    refine ⟨⟨k + 1, _, by go_num, rfl, by omega, ⟨H1.out.1, ?_⟩⟩, by simp [intOf]; omega⟩
    rw [T.out]
    exact H1.out.2
  ·have hk2 : k = l.length := by omega
   go_wp2_with fail
   go_ret
   refine ⟨_, rfl, ?_, HREL.out.1⟩
   have h := HREL.out.2
   rw [hk2, di] at h
   exact h
theorem ownB_calls : ∀ (n : Nat) (l : List S119), cd l <= n -> l.length * 200 <= 140737488351232 -> Ot.kG l -> OwnBC l := by
 intro n
 induction n with
 | zero => intro l h; cases l <;> simp at h
 | succ n ih =>
   intro l h hn hg
   refine ownB_walk l hn ((Ot.cO l).1 hg) fun x hx => ?_
   have hs := pT hx h
   have h1 := (Ot.cO l).1 hg x hx
   obtain ⟨k, s, e, f, lo, hi, th, el⟩ := x
   rw [Ot.jE] at h1
   exact ⟨ih _ hs.1 h1.2.2.2.2.2.2.1 h1.2.2.2.2.2.2.2.2.1, ih _ hs.2 h1.2.2.2.2.2.2.2.1 h1.2.2.2.2.2.2.2.2.2⟩
end
section
attribute [local go_sem] G.cell
set_option maxRecDepth 100000 in
theorem great_calls (nm : ByteArray) (wd ln : Int) (ds : List S70) (bd : List S119) (A3 : Option Addr) (c3 : Nat) (A4 : Option Addr) (c4 : Nat) (w : World) (hp : ProgAt w ds bd A3 c3 A4 c4) :
 Calls ak 58 #[.agg #[.string nm, .int .i64 wd, .int .i64 ln, .slice A3 ds.length c3, .slice A4 bd.length c4]] w fun e w' => (∃ b : Bool, e = .returned (.bool b)) /\ Below w.heap.size w w' := by
 have PAt := I hp
 have hlm := hp.hd.2.1
 clear hp
 go_enter Tryz.func58, Tryz.ntmps58
 go_upto_region 2 with (fail)
 have KX := I (show ∀ n : Int, Below (w.alloc (.cells #[.string nm, .int .i64 wd, .int .i64 ln, .slice A3 ds.length c3, .slice A4 bd.length c4] 25)).heap.size (w.alloc (.cells #[.string nm, .int .i64 wd, .int .i64 ln, .slice A3 ds.length c3, .slice A4 bd.length c4] 25)) ((w.alloc (.cells #[.string nm, .int .i64 wd, .int .i64 ln, .slice A3 ds.length c3, .slice A4 bd.length c4] 25)).alloc (.cells #[.int .i64 n] 3)) /\ qR ((w.alloc (.cells #[.string nm, .int .i64 wd, .int .i64 ln, .slice A3 ds.length c3, .slice A4 bd.length c4] 25)).alloc (.cells #[.int .i64 n] 3)) (w.heap.size + 1) from fun n => ⟨(aq _ _).alloc (ar _) _, n, by simpa using aV (w.alloc (.cells #[.string nm, .int .i64 wd, .int .i64 ln, .slice A3 ds.length c3, .slice A4 bd.length c4] 25)) (.cells #[.int .i64 n] 3)⟩)
 have KP := I (show (w.alloc (.cells #[.string nm, .int .i64 wd, .int .i64 ln, .slice A3 ds.length c3, .slice A4 bd.length c4] 25)).heap[w.heap.size]? = ac (.cells #[.string nm, .int .i64 wd, .int .i64 ln, .slice A3 ds.length c3, .slice A4 bd.length c4] 25 (0, 0)) /\ Below w.heap.size w (w.alloc (.cells #[.string nm, .int .i64 wd, .int .i64 ln, .slice A3 ds.length c3, .slice A4 bd.length c4] 25)) /\ (w.alloc (.cells #[.string nm, .int .i64 wd, .int .i64 ln, .slice A3 ds.length c3, .slice A4 bd.length c4] 25)).heap.size = w.heap.size + 1 from ⟨aV _ _, (aq _ _).alloc (ar _) _, by simp⟩)
 obtain ⟨Wb, hWb⟩ : ∃ Wb, Wb = w.alloc (.cells #[.string nm, .int .i64 wd, .int .i64 ln, .slice A3 ds.length c3, .slice A4 bd.length c4] 25) := ⟨_, rfl⟩
 rw [<- hWb] at KX KP ⊢
 clear hWb
 have OUT := I (show ∀ W, Below Wb.heap.size Wb W -> Below w.heap.size w W from fun W h => KP.out.2.1.trans (h.mono KP.out.2.1.size))
 go_wp2_with fail
 go_loopw [4] (fun i W => ∃ k : Nat, i = .int .i64 k /\ k <= ds.length /\ Aside0 (Below Wb.heap.size Wb W /\ qR W (w.heap.size + 1))) (fun i _ => ds.length - (intOf i).toNat)
 case atStart => exact ⟨0, rfl, bi _, ⟨(KX.out 0).1, (KX.out 0).2⟩⟩
 case round =>
  obtain ⟨k, rfl, hk, HREL⟩ := hrel
  obtain ⟨m, hm⟩ := HREL.out.2
  by_cases hlt : k < ds.length
  ·have z3 : ∀ g : G wr, g.W.cell? ⟨w.heap.size, 3, ag⟩ = ac (.slice A3 ds.length c3) := fun g => (aA (aB (aB KP.out.1 HREL.out.1) g.below) 3).trans rfl
   have n0 : ∀ g : G wr, g.W.cell? ⟨w.heap.size + 1, 0, ag⟩ = ac (.int .i64 m) := fun g => (aA (aB hm g.below) 0).trans rfl
   have HM := I hm
   clear hm
   obtain ⟨ad, A3d, c3d, e1, q0, q1, q2, q3, l3, g3⟩ := dN PAt.out.hd (k : Int) (bc _) (by omega)
   cases e1
   rw [av] at q0 q1 q2 q3
   have q3g : ∀ g : G wr, _ := fun g => aE ((OUT.out _ HREL.out.1).trans (g.below.mono (OUT.out _ HREL.out.1).size)) q3
   clear q0 q1 q2 q3 l3 g3
   have hi1 : (k : Int) < (ds.length : Int) := by omega
   refine aH ?_
   intro gg
   go_upto_region 5 with (fail)
   refine aH ?_
   intro g0
   obtain ⟨gg, hgg⟩ : ∃ g : G wr, g.W = g0.W := ⟨mkG (gg.below.trans (g0.below.mono gg.below.size)), rfl⟩
   rw [<- hgg]
   clear hgg g0
   refine fZ (n := 11) (S := fun w' => ∃ g' : G _, w' = g'.W) (ds := [10]) #[J, J, J, J, J, J, J, J, J, J, J] (by kernel_rfl) rfl rfl ⟨mkG (gg.2.drew), rfl⟩ (fun hHeld => ?_)
   obtain ⟨gd, hgd⟩ := hHeld
   rw [hgd]
   clear hgd
   refine dP (i := 0) (N := ac 12) (v := ?_) (a' := ?_) #[af, J, J, J, J, J, J, J, J, J, J] rfl rfl (by kernel_rfl) (fun _ _ _ h => h) (bg ⟨by rfl, ?_⟩) ⟨gd, rfl⟩ ?_ ?_
   rotate_left
   ·rintro w' ⟨g', rfl⟩
    go_simp
    with_reducible rfl
   rotate_left
   ·simp only [ax, aa, ah, ai, aN, aM]
    rfl
   refine bB (i := 1) (N := ac 13) (v := ?_) (a' := ?_) #[af, af, J, J, J, J, J, J, J, J, J] rfl rfl (by kernel_rfl) (fun _ _ _ h => h) (bg ⟨by rfl, ?_⟩) ?_ ?_
   rotate_left
   ·intro w'
    go_simp
    with_reducible rfl
   rotate_left
   ·simp only [ax, aa, ah, ai, aN, aM]
    rfl
   refine bB (i := 2) (N := ac 14) (v := ?_) (a' := ?_) #[af, af, af, J, J, J, J, J, J, J, J] rfl rfl (by kernel_rfl) (fun _ _ _ h => h) (bg ⟨by rfl, ?_⟩) ?_ ?_
   rotate_left
   ·intro w'
    go_simp
    with_reducible rfl
   rotate_left
   ·simp only [ax, aa, ah, ai, aN, aM]
    rfl
   refine dP (i := 3) (N := ac 15) (v := ?_) (a' := ?_) #[af, af, af, af, J, J, J, J, J, J, J] rfl rfl (by kernel_rfl) (fun _ _ _ h => h) (bg ⟨by rfl, ?_⟩) ⟨gd, rfl⟩ ?_ ?_
   rotate_left
   ·rintro w' ⟨g', rfl⟩
    go_simp
    with_reducible rfl
   rotate_left
   ·simp only [ax, aa, ah, ai, aN, aM]
    rfl
   refine bB (i := 4) (N := ac 16) (v := ?_) (a' := ?_) #[af, af, af, af, af, J, J, J, J, J, J] rfl rfl (by kernel_rfl) (fun _ _ _ h => h) (bg ⟨by rfl, ?_⟩) ?_ ?_
   rotate_left
   ·intro w'
    go_simp
    with_reducible rfl
   rotate_left
   ·simp only [ax, aa, ah, ai, aN, aM]
    rfl
   refine bB (i := 5) (N := ac 17) (v := ?_) (a' := ?_) #[af, af, af, af, af, af, J, J, J, J, J] rfl rfl (by kernel_rfl) (fun _ _ _ h => h) (bg ⟨by rfl, ?_⟩) ?_ ?_
   rotate_left
   ·intro w'
    go_simp
    with_reducible rfl
   rotate_left
   ·simp only [ax, aa, ah, ai, aN, aM]
    rfl
   refine bB (i := 6) (N := ac 18) (v := ?_) (a' := ?_) #[af, af, af, af, af, af, af, J, J, J, J] rfl rfl (by kernel_rfl) (fun _ _ _ h => h) (bg ⟨by rfl, ?_⟩) ?_ ?_
   rotate_left
   ·intro w'
    go_simp
    with_reducible rfl
   rotate_left
   ·simp only [ax, aa, ah, ai, aN, aM]
    rfl
   refine dP (i := 7) (N := ac 19) (v := ?_) (a' := ?_) #[af, af, af, af, af, af, af, af, J, J, J] rfl rfl (by kernel_rfl) (fun _ _ _ h => h) (bg ⟨by rfl, ?_⟩) ⟨gd, rfl⟩ ?_ ?_
   rotate_left
   ·rintro w' ⟨g', rfl⟩
    go_simp
    with_reducible rfl
   rotate_left
   ·simp only [ax, aa, ah, ai, aN, aM]
    rfl
   refine bB (i := 8) (N := ac 20) (v := ?_) (a' := ?_) #[af, af, af, af, af, af, af, af, af, J, J] rfl rfl (by kernel_rfl) (fun _ _ _ h => h) (bg ⟨by rfl, ?_⟩) ?_ ?_
   rotate_left
   ·intro w'
    go_simp
    with_reducible rfl
   rotate_left
   ·simp only [ax, aa, ah, ai, aN, aM]
    rfl
   refine bB (i := 9) (N := ac 21) (v := ?_) (a' := ?_) #[af, af, af, af, af, af, af, af, af, af, J] rfl rfl (by kernel_rfl) (fun _ _ _ h => h) (bg ⟨by rfl, ?_⟩) ?_ ?_
   rotate_left
   ·intro w'
    go_simp
    with_reducible rfl
   rotate_left
   ·simp only [ax, aa, ah, ai, aN, aM]
    rfl
   refine oF (i := 10) (N := ag) #[af, af, af, af, af, af, af, af, af, af, af] rfl rfl (by kernel_rfl) (by simp) (fun Kr hKr => ?_)
   have y0 : gd.W.frozen? ⟨w.heap.size + 1, 0, ag⟩ = J := aI (aB HM.out gd.below) 0
   obtain ⟨X, hX⟩ : ∃ X, X = gd.W.setCell ⟨w.heap.size + 1, 0, ag⟩ (.int .i64 (wrap64 (wrap64 (m + 1) + ((aG ds (k : Int)).f3.length : Int)))) := ⟨_, rfl⟩
   refine skip_ (w1 := X) (by rfl) rfl (by rw [hX]; first | (go_simp; done) | (go_simp; rfl)) ?_
   clear y0
   refine hKr.out _ _ ?_
   clear hKr Kr
   refine kH (by kernel_rfl) ?_
   have HX := I (show Below Wb.heap.size Wb X /\ qR X (w.heap.size + 1) from by
    rw [hX]
    exact ⟨(HREL.out.1.trans (gd.below.mono HREL.out.1.size)).setCell (p := ⟨w.heap.size + 1, 0, ag⟩) (by rw [KP.out.2.2]; exact ar _) _, _, bQ (aB HM.out gd.below) 0 _ rfl⟩)
   clear hX z3 n0 q3g
   obtain ⟨m2, hm2⟩ := HX.out.2
   have n2 : X.cell? ⟨w.heap.size + 1, 0, ag⟩ = ac (.int .i64 m2) := (aA hm2 0).trans rfl
   clear hm2
   by_cases h1 : 10000 < m2
   ·go_wp2_with fail
    go_ret
    exact ⟨⟨_, rfl⟩, OUT.out _ HX.out.1⟩
   ·go_wp2_with fail
    exact ⟨⟨k + 1, by go_num, by omega, ⟨HX.out.1, HX.out.2⟩⟩, by simp [intOf]; omega⟩
  ·have z3 : wr.cell? ⟨w.heap.size, 3, ag⟩ = ac (.slice A3 ds.length c3) := (aA (aB KP.out.1 HREL.out.1) 3).trans rfl
   have z4 : wr.cell? ⟨w.heap.size, 4, ag⟩ = ac (.slice A4 bd.length c4) := (aA (aB KP.out.1 HREL.out.1) 4).trans rfl
   clear hm
   go_wp2_with fail
   refine (count_calls _ bd (ar _) Wb wr (w.heap.size + 1) A4 c4 HREL.out.1 (by rw [KP.out.2.2]; exact ar _) HREL.out.2 (Kd.aF PAt.out.hb KP.out.2.1) PAt.out.hlb).mono ?_
   rintro _ W2 ⟨⟨m3, rfl⟩, _, hg2⟩
   have HG2 := I hg2
   clear hg2
   go_wp2_with fail
   go_ret
   exact ⟨⟨_, rfl⟩, OUT.out _ HG2.out.below⟩
end
section
attribute [local go_sem] G.cell
theorem pY : (Tryz.prog.info? 74).map (fun i => (i.zero, i.size, i.bytes)) = ac (ac (.int .u64 0), 1, 8) := by kernel_rfl
theorem kO : Tryz.prog.underlying 36 = ac (.slice 74) := by kernel_rfl
theorem prog_of_R {W : World} {base : Nat} {ok : Nat -> Prop} {ds : List S70} {bd : List S119} {A A' : Option Addr} {c c' : Nat} (h1 : k70.R 70 W base ok (.slice A ds.length c) ds) (h2 : dC.R 119 W base ok (.slice A' bd.length c') bd) : ProgAt W ds bd A c A' c' := by
 obtain ⟨A1, c1, e, l, C1⟩ := Kd.d7 h1
 injection e with a1 _ a3
 subst a1 a3
 obtain ⟨A2, c2, e, l2, C2⟩ := Kd.d7 h2
 injection e with a1 _ a3
 subst a1 a3
 exact ⟨C1, l, C2, l2⟩
set_option maxRecDepth 100000 in
theorem ownP_calls (nm : ByteArray) (wd ln : Int) (ds : List S70) (bd : List S119) (A3 : Option Addr) (c3 : Nat) (A4 : Option Addr) (c4 : Nat) (w : World) (hp : ProgAt w ds bd A3 c3 A4 c4) (hg : PGood nm wd ln ds bd) :
 Calls ak 59 #[.agg #[.string nm, .int .i64 wd, .int .i64 ln, .slice A3 ds.length c3, .slice A4 bd.length c4]] w fun e w' => ∃ A3' c3' A4' c4', e = .returned (.agg #[.string nm, .int .i64 wd, .int .i64 ln, .slice A3' ds.length c3', .slice A4' bd.length c4']) /\ (k70.R 70 w' w.heap.size (fun _ => True) (.slice A3' ds.length c3') ds /\ dC.R 119 w' w.heap.size (fun _ => True) (.slice A4' bd.length c4') bd) /\ Below w.heap.size w w' := by
 have PAt := I hp
 have HG := I hg
 have hlm := hp.hd.2.1
 clear hp hg
 go_enter Tryz.func59, Tryz.ntmps59
 go_upto_region 3 with (fail)
 obtain ⟨X, hX⟩ : ∃ X, X = ((w.alloc (.cells #[.string nm, .int .i64 wd, .int .i64 ln, .slice A3 ds.length c3, .slice A4 bd.length c4] 25)).alloc (.cells #[.string ⟨#[]⟩, .int .i64 0, .int .i64 0, .slice ag 0 0, .slice ag 0 0] 25)).alloc (.cells #[.string nm, .int .i64 wd, .int .i64 ln, .slice ag 0 0, .slice A4 bd.length c4] 25) := ⟨_, rfl⟩
 rw [<- hX]
 have KX := I (show Below w.heap.size w X /\ X.heap[w.heap.size]? = ac (.cells #[.string nm, .int .i64 wd, .int .i64 ln, .slice A3 ds.length c3, .slice A4 bd.length c4] 25 (0, 0)) /\ X.heap[w.heap.size + 1]? = ac (.cells #[.string ⟨#[]⟩, .int .i64 0, .int .i64 0, .slice ag 0 0, .slice ag 0 0] 25 (0, 0)) /\ X.heap[w.heap.size + 1 + 1]? = ac (.cells #[.string nm, .int .i64 wd, .int .i64 ln, .slice ag 0 0, .slice A4 bd.length c4] 25 (0, 0)) from by
  rw [hX]
  exact ⟨(((aq _ _).alloc (ar _) _).alloc (by simp) _).alloc (by simp; omega) _, eP (eP (aV _ _) _) _, eP (by simpa using aV (w.alloc (.cells #[.string nm, .int .i64 wd, .int .i64 ln, .slice A3 ds.length c3, .slice A4 bd.length c4] 25)) (.cells #[.string ⟨#[]⟩, .int .i64 0, .int .i64 0, .slice ag 0 0, .slice ag 0 0] 25)) _, by simpa using aV ((w.alloc (.cells #[.string nm, .int .i64 wd, .int .i64 ln, .slice A3 ds.length c3, .slice A4 bd.length c4] 25)).alloc (.cells #[.string ⟨#[]⟩, .int .i64 0, .int .i64 0, .slice ag 0 0, .slice ag 0 0] 25)) (.cells #[.string nm, .int .i64 wd, .int .i64 ln, .slice ag 0 0, .slice A4 bd.length c4] 25)⟩)
 clear hX
 go_wp2_with fail
 go_loopw [4] (fun i W => ∃ (k : Nat) (v : Value), i = .int .i64 k /\ k <= ds.length /\ Aside0 (Below w.heap.size w W /\ W.heap[w.heap.size]? = ac (.cells #[.string nm, .int .i64 wd, .int .i64 ln, .slice A3 ds.length c3, .slice A4 bd.length c4] 25 (0, 0)) /\ W.heap[w.heap.size + 1]? = ac (.cells #[.string ⟨#[]⟩, .int .i64 0, .int .i64 0, .slice ag 0 0, .slice ag 0 0] 25 (0, 0)) /\ W.heap[w.heap.size + 1 + 1]? = ac (.cells #[.string nm, .int .i64 wd, .int .i64 ln, v, .slice A4 bd.length c4] 25 (0, 0)) /\ k70.R 70 W w.heap.size (fun b => w.heap.size + 1 + 1 < b) v (ds.take k))) (fun i _ => ds.length - (intOf i).toNat)
 case atStart => exact ⟨0, _, rfl, bi _, ⟨KX.out.1, KX.out.2.1, KX.out.2.2.1, KX.out.2.2.2, by rw [jq]; exact Kd.jN _ _ _ _ _⟩⟩
 case round =>
  obtain ⟨k, v, rfl, hk, HREL⟩ := hrel
  have LB := I (aW HREL.out.2.2.2.1)
  have LT := I (show ∀ b, v.ownBlock = ac b -> b < wr.heap.size from by obtain ⟨_, inner, ho, _⟩ := HREL.out.2.2.2.2; exact fun b hb => qU ho b hb)
  have NE := I (show ∀ b, b <= w.heap.size + 1 + 1 -> ac b ≠ v.ownBlock from fun b hb he => by have h := HREL.out.2.2.2.2.1 b he.symm; exact absurd h (jj.2 hb))
  have z3 : wr.cell? ⟨w.heap.size, 3, ag⟩ = ac (.slice A3 ds.length c3) := (aA HREL.out.2.1 3).trans rfl
  by_cases hlt : k < ds.length
  ·obtain ⟨ad, A3d, c3d, e1, q0, q1, q2, q3, l3, g3⟩ := dN PAt.out.hd (k : Int) (bc _) (by omega)
   cases e1
   rw [av] at q0 q1 q2 q3
   replace q0 := aE HREL.out.1 q0
   replace q1 := aE HREL.out.1 q1
   replace q2 := aE HREL.out.1 q2
   replace q3 := aE HREL.out.1 q3
   have K := I (ae l3 (ae g3 (HG.out.good.ds _ (dO hlt))))
   clear l3 g3
   have hi1 : (k : Int) < (ds.length : Int) := by omega
   have T := I (pS hlt)
   generalize aG ds (k : Int) = y at *
   go_upto_region 7 with (fail)
   have HO := I (show (Kd.int .u64).R 74 (wr.alloc (.cells #[.int .i64 y.f0, .string y.f1, .int .i64 y.f2, .slice A3d y.f3.length c3d] 70)) w.heap.size (fun b => wr.heap.size < b) (.slice ag 0 0) ([] : List Int) from Kd.jN _ _ _ _ _)
   have HRC := I (Kd.aF K.out.2.1 (HREL.out.1.alloc HREL.out.1.size (.cells #[.int .i64 y.f0, .string y.f1, .int .i64 y.f2, .slice A3d y.f3.length c3d] 70)))
   have HBX := I (HREL.out.1.alloc HREL.out.1.size (.cells #[.int .i64 y.f0, .string y.f1, .int .i64 y.f2, .slice A3d y.f3.length c3d] 70))
   have HL8 := I (show (([] : List Int).length + y.f3.length) * 8 <= 140737488355328 from by have := K.out.2.2.2.2.2.1; simp; omega)
   have FR := I (show ∀ b, (wr.alloc (.cells #[.int .i64 y.f0, .string y.f1, .int .i64 y.f2, .slice A3d y.f3.length c3d] 70)).heap.size <= b -> wr.heap.size < b from fun b hb => by simp at hb; omega)
   clear q0 q1 q2 q3 z3
   go_wp2_with (at_builtin; refine Kd.R_append_row (ba .u64) (0 : Int) (w0 := w) w.heap.size rfl (.const (.slice ag 0 0)) (.tmp 21) 36 74 (.int .u64 0) 8 rfl kO pY rfl (by decide) (.slice ag 0 0) [] y.f3 A3d y.f3.length c3d (ok := fun b => wr.heap.size < b) rfl rfl FR.out HO.out HRC.out HBX.out HBX.out.size HL8.out ?_)
   intro v5 w1 hr1 hb1 hg1 hat1
   obtain ⟨Av, cv, rfl⟩ := Kd.cD hr1
   have DB := I ((hg1.block wr.heap.size (by simp) (by simp [dh])).trans (aV wr (.cells #[.int .i64 y.f0, .string y.f1, .int .i64 y.f2, .slice A3d y.f3.length c3d] 70)))
   have BL := I (show Below wr.heap.size wr w1 from ((aq wr.heap.size wr).alloc (ar _) (.cells #[.int .i64 y.f0, .string y.f1, .int .i64 y.f2, .slice A3d y.f3.length c3d] 70)).grown hg1 (by simp) (fun b hb => by simp [dh] at hb))
   have R5 := I (ae hb1 hr1)
   clear hr1 hb1 hg1 hat1 HO HRC HBX HL8 FR
   have d3 := (aA DB.out 3).trans rfl
   have f3 := aI DB.out 3
   go_upto_region 8 with (fail)
   obtain ⟨X1, hX⟩ : ∃ X, X = w1.setCell ⟨wr.heap.size, 3, ag⟩ (.slice Av y.f3.length cv) := ⟨_, rfl⟩
   rw [<- hX]
   clear d3 f3
   have H1 := I (show Below wr.heap.size wr X1 /\ X1.heap[wr.heap.size]? = ac (.cells #[.int .i64 y.f0, .string y.f1, .int .i64 y.f2, .slice Av y.f3.length cv] 70 (0, 0)) /\ (Kd.int .u64).R 74 X1 w.heap.size (fun b => wr.heap.size < b) (.slice Av y.f3.length cv) y.f3 from by
    rw [hX]
    exact ⟨BL.out.setCell (p := ⟨wr.heap.size, 3, ag⟩) (ar _) _, bQ DB.out 3 _ rfl, Kd.cJ R5.out.2 (p := ⟨wr.heap.size, 3, ag⟩) (fun b hb => ee hb) _⟩)
   clear hX
   have B1 := I (show Below w.heap.size w X1 from HREL.out.1.trans (H1.out.1.mono HREL.out.1.size))
   have MK := I (show k70.M X1 w.heap.size (fun b => wr.heap.size < b) y [.int .i64 y.f0, .string y.f1, .int .i64 y.f2, .slice Av y.f3.length cv] from k70_mkM X1 w.heap.size _ y H1.out.2.2)
   have RO := I (Kd.bK HREL.out.2.2.2.2 H1.out.1)
   have OK2 := I (show ∀ b, wr.heap.size < b -> w.heap.size + 1 + 1 < b /\ ac b ≠ v.ownBlock from fun b hb => ⟨Nat.lt_trans LB.out hb, fM LT.out (Nat.le_of_lt hb)⟩)
   have FR2 := I (show ∀ b, X1.heap.size <= b -> w.heap.size + 1 + 1 < b from fun b hb => bq LB.out (bh H1.out.1.size hb))
   have HL2 := I (show ((ds.take k).length + 1) * 56 <= 140737488355328 from by have := HG.out.good.dl; simp only at this; have := List.length_take_le k ds; omega)
   have QB := I (aB HREL.out.2.2.2.1 H1.out.1)
   have q3 := (aA QB.out 3).trans rfl
   have d0 := (aA H1.out.2.1 0).trans rfl
   have d1 := (aA H1.out.2.1 1).trans rfl
   have d2 := (aA H1.out.2.1 2).trans rfl
   have d3 := (aA H1.out.2.1 3).trans rfl
   go_wp2_with (at_builtin; refine Kd.cW k70 (w0 := w) w.heap.size rfl (.tmp 25) (.tmp 27) 22 70 zDe 56 rfl under26 info44 rfl (show 0 < 4 by decide) (by decide) v (ds.take k) y [.int .i64 y.f0, .string y.f1, .int .i64 y.f2, .slice Av y.f3.length cv] (fun b => w.heap.size + 1 + 1 < b) (fun b => wr.heap.size < b) rfl rfl MK.out OK2.out FR2.out RO.out B1.out B1.out.size HL2.out ?_)
   intro v2 w2 hr2 hb2 hg2 hat2
   obtain ⟨Av2, cv2, hv2⟩ := Kd.cD hr2
   simp only [ay, bk, cn, cy hk] at hv2
   subst hv2
   have E0 := I ((hg2.block w.heap.size (bq (aW HREL.out.2.1) H1.out.1.size) (NE.out _ (by omega))).trans (aB HREL.out.2.1 H1.out.1))
   have E1 := I ((hg2.block (w.heap.size + 1) (bq (aW HREL.out.2.2.1) H1.out.1.size) (NE.out _ (by omega))).trans (aB HREL.out.2.2.1 H1.out.1))
   have E2 := I ((hg2.block (w.heap.size + 1 + 1) (bq LB.out H1.out.1.size) (NE.out _ (by omega))).trans QB.out)
   have R2 := I (ae hb2 hr2)
   clear hr2 hb2 hg2 hat2 q3 d0 d1 d2 d3
   have q3 := (aA E2.out 3).trans rfl
   have y3 := aI E2.out 3
   go_wp2_with fail
   refine ⟨⟨k + 1, .slice Av2 (k + 1) cv2, by go_num, by omega, ⟨R2.out.1.setCell (p := ⟨w.heap.size + 1 + 1, 3, ag⟩) (show w.heap.size <= w.heap.size + 1 + 1 by omega) _, (dw _ _ _ _ (show w.heap.size ≠ w.heap.size + 1 + 1 by omega)).trans E0.out, (dw _ _ _ _ (show w.heap.size + 1 ≠ w.heap.size + 1 + 1 by omega)).trans E1.out, bQ E2.out 3 _ rfl, ?_⟩⟩, by simp [intOf]; omega⟩
   rw [T.out]
   exact Kd.cJ R2.out.2 (p := ⟨w.heap.size + 1 + 1, 3, ag⟩) (fun b hb => ee hb) _
  ·have hk2 : k = ds.length := by omega
   have HR := I (show k70.R 70 wr w.heap.size (fun b => w.heap.size + 1 + 1 < b) v ds from by have h := HREL.out.2.2.2.2; rw [hk2, di] at h; exact h)
   obtain ⟨Av, cv, rfl⟩ := Kd.cD HR.out
   have LV := I (show ds.length <= cv from by obtain ⟨A', c', e', l', _⟩ := Kd.d7 HR.out; injection e' with _ _ e3; rw [e3]; exact l')
   have z4 : wr.cell? ⟨w.heap.size, 4, ag⟩ = ac (.slice A4 bd.length c4) := (aA HREL.out.2.1 4).trans rfl
   have CB := I (ownB_calls _ bd (ar _) HG.out.good.bl ((Ot.cO bd).2 HG.out.good.bd) A4 c4 wr (Kd.aF PAt.out.hb HREL.out.1) PAt.out.hlb)
   clear hk2
   go_wp2_with fail
   refine CB.out.mono ?_
   rintro _ w9 ⟨v9, rfl, hR9, hb9⟩
   obtain ⟨Av9, cv9, rfl⟩ := Kd.cD hR9
   have H9 := I (ae hb9 hR9)
   clear hb9 hR9 z3 z4
   have QB := I (aB HREL.out.2.2.2.1 H9.out.1)
   have q4 := (aA QB.out 4).trans rfl
   have y4 := aI QB.out 4
   go_upto_region 10 with (fail)
   obtain ⟨X3, hX⟩ : ∃ X, X = w9.setCell ⟨w.heap.size + 1 + 1, 4, ag⟩ (.slice Av9 bd.length cv9) := ⟨_, rfl⟩
   rw [<- hX]
   clear q4 y4
   have H3 := I (show Below w.heap.size w X3 /\ X3.heap[w.heap.size + 1]? = ac (.cells #[.string ⟨#[]⟩, .int .i64 0, .int .i64 0, .slice ag 0 0, .slice ag 0 0] 25 (0, 0)) /\ X3.heap[w.heap.size + 1 + 1]? = ac (.cells #[.string nm, .int .i64 wd, .int .i64 ln, .slice Av ds.length cv, .slice Av9 bd.length cv9] 25 (0, 0)) /\ k70.R 70 X3 w.heap.size (fun b => w.heap.size + 1 + 1 < b) (.slice Av ds.length cv) ds /\ dC.R 119 X3 w.heap.size (fun b => w.heap.size + 1 + 1 < b) (.slice Av9 bd.length cv9) bd from by
    rw [hX]
    refine ⟨(HREL.out.1.trans (H9.out.1.mono HREL.out.1.size)).setCell (p := ⟨w.heap.size + 1 + 1, 4, ag⟩) (show w.heap.size <= w.heap.size + 1 + 1 by omega) _, (dw _ _ _ _ (show w.heap.size + 1 ≠ w.heap.size + 1 + 1 by omega)).trans (aB HREL.out.2.2.1 H9.out.1), bQ QB.out 4 _ rfl, ?_⟩
    exact ⟨Kd.cJ (Kd.bK HR.out H9.out.1) (p := ⟨w.heap.size + 1 + 1, 4, ag⟩) (fun b hb => ee hb) _, Kd.cJ (Kd.fX (Kd.eD (Kd.eG H9.out.2) (fun b hb => bq LB.out hb.2.1)) HREL.out.1.size) (p := ⟨w.heap.size + 1 + 1, 4, ag⟩) (fun b hb => ee hb) _⟩)
   clear hX
   have r0 : X3.cell? ⟨w.heap.size + 1, 0, ag⟩ = ac (.string ⟨#[]⟩) := (aA H3.out.2.1 0).trans rfl
   have f0 := aI H3.out.2.1 0
   have s0 : X3.cell? ⟨w.heap.size + 1 + 1, 0, ag⟩ = ac (.string nm) := (aA H3.out.2.2.1 0).trans rfl
   have r1 : X3.cell? ⟨w.heap.size + 1, 1, ag⟩ = ac (.int .i64 0) := (aA H3.out.2.1 1).trans rfl
   have f1 := aI H3.out.2.1 1
   have s1 : X3.cell? ⟨w.heap.size + 1 + 1, 1, ag⟩ = ac (.int .i64 wd) := (aA H3.out.2.2.1 1).trans rfl
   have r2 : X3.cell? ⟨w.heap.size + 1, 2, ag⟩ = ac (.int .i64 0) := (aA H3.out.2.1 2).trans rfl
   have f2 := aI H3.out.2.1 2
   have s2 : X3.cell? ⟨w.heap.size + 1 + 1, 2, ag⟩ = ac (.int .i64 ln) := (aA H3.out.2.2.1 2).trans rfl
   have r3 : X3.cell? ⟨w.heap.size + 1, 3, ag⟩ = ac (.slice ag 0 0) := (aA H3.out.2.1 3).trans rfl
   have f3 := aI H3.out.2.1 3
   have s3 : X3.cell? ⟨w.heap.size + 1 + 1, 3, ag⟩ = ac (.slice Av ds.length cv) := (aA H3.out.2.2.1 3).trans rfl
   have r4 : X3.cell? ⟨w.heap.size + 1, 4, ag⟩ = ac (.slice ag 0 0) := (aA H3.out.2.1 4).trans rfl
   have f4 := aI H3.out.2.1 4
   have s4 : X3.cell? ⟨w.heap.size + 1 + 1, 4, ag⟩ = ac (.slice Av9 bd.length cv9) := (aA H3.out.2.2.1 4).trans rfl
   go_wp2_with fail
   refine bodyPost_ret (results_cell_row rfl _ _ (w.heap.size + 1) 25 #[.string nm, .int .i64 wd, .int .i64 ln, .slice Av ds.length cv, .slice Av9 bd.length cv9] (0, 0) _ rfl (bQ (bQ (bQ (bQ (bQ H3.out.2.1 0 _ rfl) 1 _ rfl) 2 _ rfl) 3 _ rfl) 4 _ rfl) Tryz.underlying25 rfl (by kernel_rfl)) rfl ?_
   refine ⟨Av, cv, Av9, cv9, rfl, ?_, ?_⟩
   ·refine ⟨Kd.eD (ok := fun b => w.heap.size + 1 + 1 < b) ?_ (fun _ _ => trivial), Kd.eD (ok := fun b => w.heap.size + 1 + 1 < b) ?_ (fun _ _ => trivial)⟩
    ·exact (Kd.cJ (Kd.cJ (Kd.cJ (Kd.cJ (Kd.cJ H3.out.2.2.2.1 (p := ⟨w.heap.size + 1, 0, ag⟩) (fun b hb => by show b ≠ w.heap.size + 1; omega) _) (p := ⟨w.heap.size + 1, 1, ag⟩) (fun b hb => by show b ≠ w.heap.size + 1; omega) _) (p := ⟨w.heap.size + 1, 2, ag⟩) (fun b hb => by show b ≠ w.heap.size + 1; omega) _) (p := ⟨w.heap.size + 1, 3, ag⟩) (fun b hb => by show b ≠ w.heap.size + 1; omega) _) (p := ⟨w.heap.size + 1, 4, ag⟩) (fun b hb => by show b ≠ w.heap.size + 1; omega) _)
    ·exact (Kd.cJ (Kd.cJ (Kd.cJ (Kd.cJ (Kd.cJ H3.out.2.2.2.2 (p := ⟨w.heap.size + 1, 0, ag⟩) (fun b hb => by show b ≠ w.heap.size + 1; omega) _) (p := ⟨w.heap.size + 1, 1, ag⟩) (fun b hb => by show b ≠ w.heap.size + 1; omega) _) (p := ⟨w.heap.size + 1, 2, ag⟩) (fun b hb => by show b ≠ w.heap.size + 1; omega) _) (p := ⟨w.heap.size + 1, 3, ag⟩) (fun b hb => by show b ≠ w.heap.size + 1; omega) _) (p := ⟨w.heap.size + 1, 4, ag⟩) (fun b hb => by show b ≠ w.heap.size + 1; omega) _)
   ·exact ((((H3.out.1.setCell (p := ⟨w.heap.size + 1, 0, ag⟩) (show w.heap.size <= w.heap.size + 1 by omega) _).setCell (p := ⟨w.heap.size + 1, 1, ag⟩) (show w.heap.size <= w.heap.size + 1 by omega) _).setCell (p := ⟨w.heap.size + 1, 2, ag⟩) (show w.heap.size <= w.heap.size + 1 by omega) _).setCell (p := ⟨w.heap.size + 1, 3, ag⟩) (show w.heap.size <= w.heap.size + 1 by omega) _).setCell (p := ⟨w.heap.size + 1, 4, ag⟩) (show w.heap.size <= w.heap.size + 1 by omega) _
end
section
attribute [local go_sem] G.cell
set_option maxRecDepth 100000 in
theorem own_calls (nm : ByteArray) (wd ln : Int) (ds : List S70) (bd : List S119) (A3 : Option Addr) (c3 : Nat) (A4 : Option Addr) (c4 : Nat) (w : World) (hp : ProgAt w ds bd A3 c3 A4 c4) (hg : PGood nm wd ln ds bd) :
 Calls ak 16 #[.agg #[.string nm, .int .i64 wd, .int .i64 ln, .slice A3 ds.length c3, .slice A4 bd.length c4]] w fun e w' => ∃ A3' c3' A4' c4', e = .returned (.agg #[.string nm, .int .i64 wd, .int .i64 ln, .slice A3' ds.length c3', .slice A4' bd.length c4']) /\ ProgAt w' ds bd A3' c3' A4' c4' /\ Below w.heap.size w w' := by
 have PAt := I hp
 have HG := I hg
 clear hp hg
 go_enter Tryz.func16, Tryz.ntmps16
 go_upto_region 1 with (fail)
 obtain ⟨X, hX⟩ : ∃ X, X = (w.alloc (.cells #[.string nm, .int .i64 wd, .int .i64 ln, .slice A3 ds.length c3, .slice A4 bd.length c4] 25)).alloc (.cells #[.string ⟨#[]⟩, .int .i64 0, .int .i64 0, .slice ag 0 0, .slice ag 0 0] 25) := ⟨_, rfl⟩
 rw [<- hX]
 have KX := I (show Below w.heap.size w X /\ X.heap[w.heap.size]? = ac (.cells #[.string nm, .int .i64 wd, .int .i64 ln, .slice A3 ds.length c3, .slice A4 bd.length c4] 25 (0, 0)) /\ X.heap[w.heap.size + 1]? = ac (.cells #[.string ⟨#[]⟩, .int .i64 0, .int .i64 0, .slice ag 0 0, .slice ag 0 0] 25 (0, 0)) from by
  rw [hX]
  exact ⟨((aq _ _).alloc (ar _) _).alloc (by simp) _, eP (aV _ _) _, by simpa using aV (w.alloc (.cells #[.string nm, .int .i64 wd, .int .i64 ln, .slice A3 ds.length c3, .slice A4 bd.length c4] 25)) (.cells #[.string ⟨#[]⟩, .int .i64 0, .int .i64 0, .slice ag 0 0, .slice ag 0 0] 25)⟩)
 clear hX
 have OUT := I (show ∀ g : G X, Below w.heap.size w g.W from fun g => KX.out.1.trans (g.below.mono KX.out.1.size))
 refine aH ?_
 intro gg
 have p0 : ∀ g : G X, g.W.cell? ⟨w.heap.size, 0, ag⟩ = ac (.string nm) := fun g => (aA (aB KX.out.2.1 g.below) 0).trans rfl
 have p1 : ∀ g : G X, g.W.cell? ⟨w.heap.size, 1, ag⟩ = ac (.int .i64 wd) := fun g => (aA (aB KX.out.2.1 g.below) 1).trans rfl
 have p2 : ∀ g : G X, g.W.cell? ⟨w.heap.size, 2, ag⟩ = ac (.int .i64 ln) := fun g => (aA (aB KX.out.2.1 g.below) 2).trans rfl
 have p3 : ∀ g : G X, g.W.cell? ⟨w.heap.size, 3, ag⟩ = ac (.slice A3 ds.length c3) := fun g => (aA (aB KX.out.2.1 g.below) 3).trans rfl
 have p4 : ∀ g : G X, g.W.cell? ⟨w.heap.size, 4, ag⟩ = ac (.slice A4 bd.length c4) := fun g => (aA (aB KX.out.2.1 g.below) 4).trans rfl
 go_wp2_with fail
 refine (great_calls nm wd ln ds bd A3 c3 A4 c4 gg.W (PAt.out.below (OUT.out gg))).mono ?_
 rintro _ w9 ⟨⟨b, rfl⟩, hb⟩
 obtain ⟨gg, rfl⟩ : ∃ g : G X, w9 = g.W := ⟨mkG (gg.below.trans (hb.mono gg.below.size)), rfl⟩
 clear hb
 rcases aJ b with rfl | rfl
 ·obtain ⟨w9, hw9⟩ : ∃ w9, w9 = gg.W := ⟨_, rfl⟩
  have HZ := I (show w9.heap[w.heap.size + 1]? = ac (.cells #[.string ⟨#[]⟩, .int .i64 0, .int .i64 0, .slice ag 0 0, .slice ag 0 0] 25 (0, 0)) from hw9 ▸ aB KX.out.2.2 gg.below)
  have q0 := hw9 ▸ p0 gg
  have q1 := hw9 ▸ p1 gg
  have q2 := hw9 ▸ p2 gg
  have q3 := hw9 ▸ p3 gg
  have q4 := hw9 ▸ p4 gg
  have HO := I (show Below w.heap.size w w9 from hw9 ▸ OUT.out gg)
  rw [<- hw9]
  clear hw9
  have r0 : w9.cell? ⟨w.heap.size + 1, 0, ag⟩ = ac (.string ⟨#[]⟩) := (aA HZ.out 0).trans rfl
  have f0 := aI HZ.out 0
  have r1 : w9.cell? ⟨w.heap.size + 1, 1, ag⟩ = ac (.int .i64 0) := (aA HZ.out 1).trans rfl
  have f1 := aI HZ.out 1
  have r2 : w9.cell? ⟨w.heap.size + 1, 2, ag⟩ = ac (.int .i64 0) := (aA HZ.out 2).trans rfl
  have f2 := aI HZ.out 2
  have r3 : w9.cell? ⟨w.heap.size + 1, 3, ag⟩ = ac (.slice ag 0 0) := (aA HZ.out 3).trans rfl
  have f3 := aI HZ.out 3
  have r4 : w9.cell? ⟨w.heap.size + 1, 4, ag⟩ = ac (.slice ag 0 0) := (aA HZ.out 4).trans rfl
  have f4 := aI HZ.out 4
  go_wp2_with fail
  refine bodyPost_ret (results_cell_row rfl _ _ (w.heap.size + 1) 25 #[.string nm, .int .i64 wd, .int .i64 ln, .slice A3 ds.length c3, .slice A4 bd.length c4] (0, 0) _ rfl ((bQ (bQ (bQ (bQ (bQ HZ.out 0 _ rfl) 1 _ rfl) 2 _ rfl) 3 _ rfl) 4 _ rfl)) Tryz.underlying25 rfl (by kernel_rfl)) rfl ?_
  have HB := (((((HO.out.setCell (p := ⟨w.heap.size + 1, 0, ag⟩) (show w.heap.size <= w.heap.size + 1 by omega) (.string nm)).setCell (p := ⟨w.heap.size + 1, 1, ag⟩) (show w.heap.size <= w.heap.size + 1 by omega) (.int .i64 wd)).setCell (p := ⟨w.heap.size + 1, 2, ag⟩) (show w.heap.size <= w.heap.size + 1 by omega) (.int .i64 ln)).setCell (p := ⟨w.heap.size + 1, 3, ag⟩) (show w.heap.size <= w.heap.size + 1 by omega) (.slice A3 ds.length c3)).setCell (p := ⟨w.heap.size + 1, 4, ag⟩) (show w.heap.size <= w.heap.size + 1 by omega) (.slice A4 bd.length c4))
  exact ⟨A3, c3, A4, c4, rfl, PAt.out.below HB, HB⟩
 ·go_wp2_with fail
  refine (ownP_calls nm wd ln ds bd A3 c3 A4 c4 gg.W (PAt.out.below (OUT.out gg)) HG.out).mono ?_
  rintro _ w9 ⟨A3', c3', A4', c4', rfl, hR, hb⟩
  have HR := I hR
  have HS := I (show w.heap.size + 1 < gg.W.heap.size from aW (aB KX.out.2.2 gg.below))
  have HZ := I (aB (aB KX.out.2.2 gg.below) hb)
  have HO := I (show Below w.heap.size w w9 from (OUT.out gg).trans (hb.mono (OUT.out gg).size))
  clear hR hb
  have r0 : w9.cell? ⟨w.heap.size + 1, 0, ag⟩ = ac (.string ⟨#[]⟩) := (aA HZ.out 0).trans rfl
  have f0 := aI HZ.out 0
  have r1 : w9.cell? ⟨w.heap.size + 1, 1, ag⟩ = ac (.int .i64 0) := (aA HZ.out 1).trans rfl
  have f1 := aI HZ.out 1
  have r2 : w9.cell? ⟨w.heap.size + 1, 2, ag⟩ = ac (.int .i64 0) := (aA HZ.out 2).trans rfl
  have f2 := aI HZ.out 2
  have r3 : w9.cell? ⟨w.heap.size + 1, 3, ag⟩ = ac (.slice ag 0 0) := (aA HZ.out 3).trans rfl
  have f3 := aI HZ.out 3
  have r4 : w9.cell? ⟨w.heap.size + 1, 4, ag⟩ = ac (.slice ag 0 0) := (aA HZ.out 4).trans rfl
  have f4 := aI HZ.out 4
  go_wp2_with fail
  refine bodyPost_ret (results_cell_row rfl _ _ (w.heap.size + 1) 25 #[.string nm, .int .i64 wd, .int .i64 ln, .slice A3' ds.length c3', .slice A4' bd.length c4'] (0, 0) _ rfl ((bQ (bQ (bQ (bQ (bQ HZ.out 0 _ rfl) 1 _ rfl) 2 _ rfl) 3 _ rfl) 4 _ rfl)) Tryz.underlying25 rfl (by kernel_rfl)) rfl ?_
  have HB := (((((HO.out.setCell (p := ⟨w.heap.size + 1, 0, ag⟩) (show w.heap.size <= w.heap.size + 1 by omega) (.string nm)).setCell (p := ⟨w.heap.size + 1, 1, ag⟩) (show w.heap.size <= w.heap.size + 1 by omega) (.int .i64 wd)).setCell (p := ⟨w.heap.size + 1, 2, ag⟩) (show w.heap.size <= w.heap.size + 1 by omega) (.int .i64 ln)).setCell (p := ⟨w.heap.size + 1, 3, ag⟩) (show w.heap.size <= w.heap.size + 1 by omega) (.slice A3' ds.length c3')).setCell (p := ⟨w.heap.size + 1, 4, ag⟩) (show w.heap.size <= w.heap.size + 1 by omega) (.slice A4' bd.length c4'))
  have hs := HS.out
  refine ⟨A3', c3', A4', c4', rfl, prog_of_R (base := gg.W.heap.size) (ok := fun b => gg.W.heap.size <= b) ?_ ?_, HB⟩
  ·exact (Kd.cJ (Kd.cJ (Kd.cJ (Kd.cJ (Kd.cJ (Kd.eD (Kd.eG HR.out.1) (fun b hb => hb.2.1)) (p := ⟨w.heap.size + 1, 0, ag⟩) (fun b hb => by show b ≠ w.heap.size + 1; omega) _) (p := ⟨w.heap.size + 1, 1, ag⟩) (fun b hb => by show b ≠ w.heap.size + 1; omega) _) (p := ⟨w.heap.size + 1, 2, ag⟩) (fun b hb => by show b ≠ w.heap.size + 1; omega) _) (p := ⟨w.heap.size + 1, 3, ag⟩) (fun b hb => by show b ≠ w.heap.size + 1; omega) _) (p := ⟨w.heap.size + 1, 4, ag⟩) (fun b hb => by show b ≠ w.heap.size + 1; omega) _)
  ·exact (Kd.cJ (Kd.cJ (Kd.cJ (Kd.cJ (Kd.cJ (Kd.eD (Kd.eG HR.out.2) (fun b hb => hb.2.1)) (p := ⟨w.heap.size + 1, 0, ag⟩) (fun b hb => by show b ≠ w.heap.size + 1; omega) _) (p := ⟨w.heap.size + 1, 1, ag⟩) (fun b hb => by show b ≠ w.heap.size + 1; omega) _) (p := ⟨w.heap.size + 1, 2, ag⟩) (fun b hb => by show b ≠ w.heap.size + 1; omega) _) (p := ⟨w.heap.size + 1, 3, ag⟩) (fun b hb => by show b ≠ w.heap.size + 1; omega) _) (p := ⟨w.heap.size + 1, 4, ag⟩) (fun b hb => by show b ≠ w.heap.size + 1; omega) _)
end
structure S101 where
 f0 : Int
 f1 : Int
 f2 : Int
def z101 : S101 := ⟨(0 : Int), (0 : Int), (0 : Int)⟩
def oD : Kd S101 := Kd.iso (Kd.pair (Kd.int .i64) (Kd.pair (Kd.int .u64) (Kd.int .u64))) (fun x : S101 => (x.f0, x.f1, x.f2))
theorem k101_open {w : World} {x : S101} {cs : List Value} (h : oD.K w x cs) : cs = [.int .i64 x.f0, .int .u64 x.f1, .int .u64 x.f2] := by
 obtain ⟨_, _, rfl, rfl, ⟨_, _, rfl, rfl, rfl⟩⟩ := h
 exact rfl
theorem k101_mkM (w : World) (base : Nat) (ok : Nat -> Prop) (x : S101)  : oD.M w base ok x [.int .i64 x.f0, .int .u64 x.f1, .int .u64 x.f2] := ⟨[.int .i64 x.f0], [.int .u64 x.f1, .int .u64 x.f2], rfl, rfl, ⟨[.int .u64 x.f1], [.int .u64 x.f2], rfl, rfl, rfl⟩⟩
def rd_T101 (xs : List S101) (i : Int) : S101 := xs.getD i.toNat z101
theorem at_T101 {w : World} {A : Option Addr} {n : Nat} {xs : List S101} (h : Kd.C oD w A n xs) (i : Int) (h0 : 0 <= i) (h1 : i < n) : ∃ ad , A = ac ad /\ w.cell? (ad.add (i.toNat * 3)) = ac (.int .i64 (rd_T101 xs i).f0) /\ w.cell? ⟨(ad.add (i.toNat * 3)).block, (ad.add (i.toNat * 3)).off + 1, ag⟩ = ac (.int .u64 (rd_T101 xs i).f1) /\ w.cell? ⟨(ad.add (i.toNat * 3)).block, (ad.add (i.toNat * 3)).off + 2, ag⟩ = ac (.int .u64 (rd_T101 xs i).f2) := by
 obtain ⟨ad, c, e, _, hK, hc0⟩ := Kd.oI h z101 i h0 h1
 have hc : ∀ j u, c[j]? = ac u -> w.cell? (ad.add (i.toNat * 3 + j)) = ac u := hc0
 obtain rfl := k101_open hK
 exact ⟨ad, e, hc 0 _ rfl, by rw [<- cA _ _ 1 (by omega)]; exact hc 1 _ rfl, by rw [<- cA _ _ 2 (by omega)]; exact hc 2 _ rfl⟩
section
attribute [local go_sem] G.cell
def pV (f : Th -> Bool) : Nat -> List Th -> Ending
 | _, [] => .returned (.tuple #[])
 | n, t :: r => if f t = af then .panicked (mP n) else pV f (n + 1) r
theorem fF {f : Th -> Bool} : ∀ {n : Nat} {l : List Th}, l.any f = J -> pV f n l = .returned (.tuple #[])
 | _, [], _ => rfl
 | n, t :: r, h => by
   rw [jn, Bool.or_eq_false_iff] at h
   rw [pV, if_neg (by simp [h.1]), fF h.2]
theorem gK {f : Th -> Bool} : ∀ {n : Nat} {l : List Th}, l.any f = af -> ∃ m, pV f n l = .panicked (mP m)
 | _, [], h => by simp at h
 | n, t :: r, h => by
   rw [pV]
   by_cases ht : f t = af
   ·rw [if_pos ht]; exact ⟨n, rfl⟩
   ·rw [if_neg ht]
    rw [jn] at h
    exact gK (by simpa [ht] using h)
theorem fE {f : Th -> Bool} : ∀ {n : Nat} {a r : List Th}, a.any f = J -> pV f n (a ++ r) = pV f (n + a.length) r
 | _, [], _, _ => rfl
 | n, t :: s, r, h => by
   rw [jn, Bool.or_eq_false_iff] at h
   rw [gq, pV, if_neg (by simp [h.1]), fE h.2, iv]
   congr 1
   omega
theorem fO {f : Th -> Bool} : ∀ {n : Nat} {m r : List Th}, m.any f = af -> pV f n (m ++ r) = pV f n m
 | _, [], _, h => by simp at h
 | n, t :: s, r, h => by
   rw [gq, pV, pV]
   by_cases ht : f t = af
   ·rw [if_pos ht, if_pos ht]
   ·rw [if_neg ht, if_neg ht]
    rw [jn] at h
    exact fO (by simpa [ht] using h)
theorem dW.ptr {W : World} {v : Value} {lo : List ByteArray} (h : dW W v lo) : ∃ q, v = .pointer q := by
 cases lo with
 | nil => exact ⟨ag, h⟩
 | cons nm r => obtain ⟨b, nx, hv, _⟩ := h; exact ⟨_, hv⟩
theorem addr_eta {w : World} {a : Addr} {v : Value} (h : w.cell? a = ac v) : a = ⟨a.block, a.off, ag⟩ := by
 obtain ⟨b, o, s⟩ := a
 cases s with
 | none => rfl
 | some s =>
   unfold World.cell? at h
   simp at h
   split at h <;> simp at h
theorem ex_kid {Wb : World} {A : Option Addr} {n : Nat} {l : List S116} (h : cQ.C Wb A n l) {k : Nat} (hk : k < n) : ∃ ad, A = ac ad /\ ExAt Wb (.pointer (ac (ad.add (k * 4)))) (bO l (k : Int)) := by
 obtain ⟨ad, A3, c3, e, q0, q1, q2, q3, l3, g3⟩ := fR h (k : Int) (bc _) (by omega)
 rw [av] at q0 q1 q2 q3
 have he := addr_eta q0
 refine ⟨ad, e, ad.add (k * 4), A3, c3, by rw [<- he], ?_, l3, g3⟩
 intro j v hj
 match j, hj with
 | 0, hj => simp at hj; subst hj; rw [fq, <- he]; exact q0
 | 1, hj => simp at hj; subst hj; exact q1
 | 2, hj => simp at hj; subst hj; rw [<- q2]
 | 3, hj => simp at hj; subst hj; rw [<- q3]
 | j + 4, hj => simp at hj
theorem exThs_app (a b : List S116) (lo : List ByteArray) : e7 (a ++ b) lo = e7 a lo ++ e7 b lo := by
 induction a with
 | nil => simp [e7]
 | cons x r ih => rw [gq, e7, ih, e7, dr]
theorem o8 (l : List S116) (k : Nat) (hk : k < l.length) (lo : List ByteArray) : e7 l lo = e7 (l.take k) lo ++ (dX (bO l (k : Int)) lo ++ e7 (l.drop (k + 1)) lo) := by
 have h := exThs_app (l.take (k + 1)) (l.drop (k + 1)) lo
 rw [List.take_append_drop, dK hk, rJ, dr] at h
 exact h
def WExpr (Wb : World) (bw b : Nat) (R : Th -> Prop) (f : Th -> Bool) (e : S116) : Prop := ∀ (W : World) (n : Nat) (p lp : Value) (lo : List ByteArray), (∀ t ∈ dX e lo, R t) -> Below Wb.heap.size Wb W -> W.heap[b]? = ac (.cells #[.int .i64 n, seeV bw] 183 (0, 0)) -> ExAt Wb p e -> dW W lp lo.reverse -> n + aK e < 4611686018427387904 ->
 Calls ak 169 #[.pointer (ac ⟨b, 0, ag⟩), p, lp] W fun r W' => r = pV f n (dX e lo) /\ ((dX e lo).any f = J -> W'.heap[b]? = ac (.cells #[.int .i64 ((n + aK e : Nat) : Int), seeV bw] 183 (0, 0))) /\ Gw Wb W W' b
set_option maxRecDepth 100000 in
theorem wexpr_walk {Wb : World} {bw b : Nat} {R : Th -> Prop} {f : Th -> Bool} (hs : SeeOK Wb bw R f) (hbb : Wb.heap.size <= b) (e : S116) (ih : ∀ y ∈ e.f3, WExpr Wb bw b R f y) : WExpr Wb bw b R f e := by
 intro W n p lp lo hRR hB hw hx hsc hn
 have HX := I hx
 obtain ⟨lq, rfl⟩ := hsc.ptr
 obtain ⟨a, A, c, rfl, hr, hl, hC⟩ := hx
 have HS := I hs
 have HRR := I hRR
 clear hRR
 have HW := I hw
 have HB := I hB
 have HBB := I hbb
 have HSC := I hsc
 have HN := I hn
 have IH := I ih
 have HRG := I hr
 have HC := I hC
 have hlm := hC.2.1
 clear hs hw hB hbb hsc hn ih hr hC
 go_enter Tryz.func169, Tryz.ntmps169
 go_wp2_with fail
 refine (nB HS.out HBB.out W n (by have := HN.out; omega) (.pointer ag) (.pointer ag) (.pointer (ac ⟨a.block, a.off, ag⟩)) 0 0 (.pointer lq) (.expr e lo) (HRR.out _ (by rw [iI]; exact ji)) HB.out HW.out ⟨rfl, rfl, HX.out, rfl, HSC.out⟩).mono ?_
 rintro _ W1 ⟨rfl, hw1, hg1⟩
 rcases aJ (f (.expr e lo)) with hf | hf
 ·rw [hf]
  refine ⟨rfl, ?_, ?_, hg1⟩
  ·rw [iI, pV, if_pos hf]
  ·intro h
   rw [iI, jn, hf] at h
   cases h
 rw [hf]
 have HF := I hf
 have HR1 := I (ae hw1 hg1)
 have z3 : W1.cell? ⟨a.block, a.off + 3, ag⟩ = ac (.slice A e.f3.length c) := aE hg1.below (HRG.out 3 _ rfl)
 clear hw1 hg1 hf
 rw [show outE J n = .returned (.tuple #[]) from rfl]
 go_wp2_with fail
 go_loopw [17] (fun i W => ∃ (k : Nat) (W2 : World), i = .int .i64 k /\ W2 = W /\ k <= e.f3.length /\ Aside0 (W2.heap[b]? = ac (.cells #[.int .i64 ((n + 1 + bN (e.f3.take k) : Nat) : Int), seeV bw] 183 (0, 0)) /\ Gw Wb W1 W2 b /\ (e7 (e.f3.take k) lo).any f = J)) (fun i _ => e.f3.length - (intOf i).toNat)
 case atStart => exact ⟨0, _, rfl, rfl, bi _, ⟨by simpa [bN] using HR1.out.1, ⟨HR1.out.2.below, ⟨rfl, rfl, rfl, ar _, fun _ _ _ => rfl⟩⟩, by simp [e7]⟩⟩
 case round =>
  obtain ⟨k, W2, rfl, rfl, hk, HK⟩ := hrel
  by_cases hlt : k < e.f3.length
  ·obtain ⟨ad, e1, hkid⟩ := ex_kid HC.out hlt
   cases e1
   have HKID := I hkid
   clear hkid
   have hk1 : (k : Int) < (e.f3.length : Int) := by omega
   have z3 : W2.cell? ⟨a.block, a.off + 3, ag⟩ = ac (.slice (ac ad) e.f3.length c) := aE HK.out.2.1.below (HRG.out 3 _ rfl)
   have MEM := I (gM hlt)
   have T := I (ae (congrArg bN (dK hlt)) (congrArg (fun l => e7 l lo) (dK hlt)))
   have SP := I (o8 e.f3 k hlt lo)
   have WT := I (fH e.f3 (k + 1))
   obtain ⟨y, hy⟩ : ∃ y, y = bO e.f3 (k : Int) := ⟨_, rfl⟩
   rw [<- hy] at HKID MEM T SP
   clear hy
   have HNY : n + 1 + bN (e.f3.take k) + aK y < 4611686018427387904 := by
    have h1 := HN.out
    have h2 := T.out.1
    have h3 := WT.out
    rw [eE] at h2
    rw [eB] at h1
    omega
   have HNY := I HNY
   go_wp2_with fail
   refine (IH.out _ MEM.out W2 (n + 1 + bN (e.f3.take k)) (.pointer (ac (ad.add (k * 4)))) (.pointer lq) lo (fun t ht => HRR.out t (by rw [iI, SP.out]; simp [ht])) HK.out.2.1.below HK.out.1 HKID.out (((HSC.out.step HW.out HR1.out.2.grown)).step HR1.out.1 HK.out.2.1.grown) HNY.out).mono ?_
   rintro _ W3 ⟨rfl, hw3, hg3⟩
   rcases aJ ((dX y lo).any f) with ha | ha
   ·obtain ⟨m, hm⟩ := gK (n := n + 1 + bN (e.f3.take k)) ha
    rw [hm]
    refine ⟨rfl, ?_, ?_, HR1.out.2.trans (HK.out.2.1.trans hg3)⟩
    ·rw [iI, pV, if_neg (by simp [HF.out]), SP.out, fE HK.out.2.2, fO ha, mA, <- hm]
    ·intro h
     rw [iI, SP.out] at h
     simp [ha] at h
   ·rw [fF ha]
    have HA := I ha
    have HR3 := I (ae (hw3 ha) hg3)
    clear ha hw3 hg3
    go_wp2_with fail
    refine ⟨⟨k + 1, W3, by go_num, rfl, by omega, ⟨?_, HK.out.2.1.trans HR3.out.2, ?_⟩⟩, by simp [intOf]; omega⟩
    ·have h1 := HR3.out.1
     have h2 := T.out.1
     rw [eE] at h2
     rw [h2, <- ic]
     exact h1
    ·have h2 := T.out.2
     simp only [rJ] at h2
     rw [h2, gr, HK.out.2.2, HA.out]
     rfl
  ·go_wp2_with fail
   first | go_end0 | skip
   have hke : k = e.f3.length := by omega
   have h1 := HK.out
   rw [hke, di] at h1
   have ha : (dX e lo).any f = J := by rw [iI, jn, HF.out, h1.2.2]; rfl
   refine ⟨(fF ha).symm, fun _ => ?_, HR1.out.2.trans h1.2.1⟩
   rw [eB, <- ic]
   exact h1.1
theorem j7 {Wb : World} {bw b : Nat} {R : Th -> Prop} {f : Th -> Bool} (hs : SeeOK Wb bw R f) (hbb : Wb.heap.size <= b) : ∀ (n : Nat) (e : S116), cd e <= n -> WExpr Wb bw b R f e := by
 intro n
 induction n with
 | zero => intro e h; obtain ⟨a, b, s, l⟩ := e; simp at h
 | succ n ih => exact fun e h => wexpr_walk hs hbb e fun y hy => ih y (eK rfl hy h)
end
section
attribute [local go_sem] G.cell
theorem st_kid {Wb : World} {A : Option Addr} {n : Nat} {l : List S119} (h : dC.C Wb A n l) {k : Nat} (hk : k < n) : ∃ ad bb oo A5 c5 A9 c9 A12 c12 A13 c13, A = ac ad /\ ad.add (k * 14) = ⟨bb, oo, ag⟩ /\
 Wb.rangeAt bb oo [.int .i64 (aQ l (k : Int)).f0, .string (aQ l (k : Int)).f1, .int .i64 (aQ l (k : Int)).f2.f0, .int .u64 (aQ l (k : Int)).f2.f1, .string (aQ l (k : Int)).f2.f2, .slice A5 (aQ l (k : Int)).f2.f3.length c5, .int .i64 (aQ l (k : Int)).f3.f0, .int .u64 (aQ l (k : Int)).f3.f1, .string (aQ l (k : Int)).f3.f2, .slice A9 (aQ l (k : Int)).f3.f3.length c9, .int .u64 (aQ l (k : Int)).f4, .int .u64 (aQ l (k : Int)).f5, .slice A12 (aQ l (k : Int)).f6.length c12, .slice A13 (aQ l (k : Int)).f7.length c13] /\
 (aQ l (k : Int)).f2.f3.length <= c5 /\ cQ.C Wb A5 (aQ l (k : Int)).f2.f3.length (aQ l (k : Int)).f2.f3 /\ (aQ l (k : Int)).f3.f3.length <= c9 /\ cQ.C Wb A9 (aQ l (k : Int)).f3.f3.length (aQ l (k : Int)).f3.f3 /\
 (aQ l (k : Int)).f6.length <= c12 /\ dC.C Wb A12 (aQ l (k : Int)).f6.length (aQ l (k : Int)).f6 /\ (aQ l (k : Int)).f7.length <= c13 /\ dC.C Wb A13 (aQ l (k : Int)).f7.length (aQ l (k : Int)).f7 := by
 obtain ⟨ad, A5, c5, A9, c9, A12, c12, A13, c13, e, q0, q1, q2, q3, q4, q5, q6, q7, q8, q9, q10, q11, q12, q13, l5, g5, l9, g9, l12, g12, l13, g13⟩ := gV h (k : Int) (bc _) (by omega)
 rw [av] at q0 q1 q2 q3 q4 q5 q6 q7 q8 q9 q10 q11 q12 q13
 have he := addr_eta q0
 refine ⟨ad, (ad.add (k * 14)).block, (ad.add (k * 14)).off, A5, c5, A9, c9, A12, c12, A13, c13, e, he, ?_, l5, g5, l9, g9, l12, g12, l13, g13⟩
 intro j v hj
 match j, hj with
 | 0, hj => simp at hj; subst hj; rw [fq, <- he]; exact q0
 | 1, hj => simp at hj; subst hj; exact q1
 | 2, hj => simp at hj; subst hj; exact q2
 | 3, hj => simp at hj; subst hj; exact q3
 | 4, hj => simp at hj; subst hj; exact q4
 | 5, hj => simp at hj; subst hj; exact q5
 | 6, hj => simp at hj; subst hj; exact q6
 | 7, hj => simp at hj; subst hj; exact q7
 | 8, hj => simp at hj; subst hj; exact q8
 | 9, hj => simp at hj; subst hj; exact q9
 | 10, hj => simp at hj; subst hj; exact q10
 | 11, hj => simp at hj; subst hj; exact q11
 | 12, hj => simp at hj; subst hj; exact q12
 | 13, hj => simp at hj; subst hj; exact q13
 | j + 14, hj => simp at hj
theorem range_sub {w : World} {b o : Nat} {cs ds : List Value} (k : Nat) (h : w.rangeAt b o cs) (hd : ∀ (j : Nat) (v : Value), ds[j]? = ac v -> cs[k + j]? = ac v) : w.rangeAt b (o + k) ds := fun j v hj => by
 rw [ic]
 exact h (k + j) v (hd j v hj)
theorem stThs_app (a b : List S119) (d : Nat) (lo : List ByteArray) : aL (a ++ b) d lo = aL a d lo ++ aL b d lo := by
 induction a with
 | nil => simp [aL]
 | cons x r ih => rw [gq, aL, ih, aL, dr]
theorem stThs_split (l : List S119) (k : Nat) (hk : k < l.length) (d : Nat) (lo : List ByteArray) : aL l d lo = aL (l.take k) d lo ++ (stTh (aQ l (k : Int)) d lo ++ aL (l.drop (k + 1)) d lo) := by
 have h := stThs_app (l.take (k + 1)) (l.drop (k + 1)) d lo
 rw [List.take_append_drop, fA hk, eY, dr] at h
 exact h
theorem st_form {x : S119} (h : stB x = af) : 1 <= x.f0 /\ x.f0 <= 5 /\ (x.f0 = 1 \/ x.f0 = 2 \/ x.f0 = 5 -> x.f6 = [] /\ x.f7 = []) /\ (x.f0 = 4 -> x.f7 = []) /\ bdB x.f6 = af /\ bdB x.f7 = af := by
 rw [nT] at h
 simp only [bo] at h
 obtain ⟨⟨h0, h6⟩, h7⟩ := h
 unfold aX at h0
 simp only [bo, decide_eq_true_eq] at h0
 obtain ⟨⟨⟨⟨⟨⟨⟨h1, h2⟩, _⟩, _⟩, _⟩, _⟩, h8⟩, h9⟩ := h0
 refine ⟨h1, h2, fun hk => ⟨?_, ?_⟩, fun hk => ?_, h6, h7⟩
 ·rw [if_neg (by omega)] at h8; exact gp.1 h8
 ·rw [if_neg (by omega)] at h9; exact gp.1 h9
 ·rw [if_neg (by omega)] at h9; exact gp.1 h9
theorem bd_mem {l : List S119} (h : bdB l = af) {x : S119} (hx : x ∈ l) : stB x = af := by
 rw [kQ, dz] at h
 exact h x hx
def WStmts (Wb : World) (bw b : Nat) (R : Th -> Prop) (f : Th -> Bool) (l : List S119) : Prop := ∀ (W : World) (n : Nat) (lp : Value) (lo : List ByteArray) (A : Option Addr) (c d : Nat) (dI : Int), (∀ t ∈ aL l d lo, R t) -> dI = (d : Int) -> bdB l = af -> Below Wb.heap.size Wb W -> W.heap[b]? = ac (.cells #[.int .i64 n, seeV bw] 183 (0, 0)) -> dC.C Wb A l.length l -> l.length <= c -> dW W lp lo.reverse -> n + (aL l d lo).length < 4611686018427387904 -> d + Ot.bW l < 4611686018427387904 ->
 Calls ak 123 #[.pointer (ac ⟨b, 0, ag⟩), .slice A l.length c, .int .i64 dI, lp] W fun r W' => r = pV f n (aL l d lo) /\ ((aL l d lo).any f = J -> W'.heap[b]? = ac (.cells #[.int .i64 ((n + (aL l d lo).length : Nat) : Int), seeV bw] 183 (0, 0))) /\ Gw Wb W W' b
set_option maxRecDepth 100000 in
theorem wstmts_walk {Wb : World} {bw b : Nat} {R : Th -> Prop} {f : Th -> Bool} (hs : SeeOK Wb bw R f) (hbb : Wb.heap.size <= b) (l : List S119) (ih : ∀ x ∈ l, WStmts Wb bw b R f x.f6 /\ WStmts Wb bw b R f x.f7) : WStmts Wb bw b R f l := by
 intro W n lp lo A c d dI hRR hdI hform hB hw hC hl hsc hn hd
 obtain ⟨lq, rfl⟩ := hsc.ptr
 subst hdI
 have HS := I hs
 have HRR := I hRR
 clear hRR
 have HW := I hw
 have HB := I hB
 have HBB := I hbb
 have HSC := I hsc
 have HN := I (ae hn hd)
 have IH := I ih
 have HF := I hform
 have HC := I hC
 have hlm := hC.2.1
 clear hs hw hB hbb hsc hn hd ih hform hC
 go_enter Tryz.func123, Tryz.ntmps123
 go_wp2_with fail
 go_loopw [12] (fun i W3 => ∃ (k : Nat) (W2 : World), i = .int .i64 k /\ W2 = W3 /\ k <= l.length /\ Aside0 (W2.heap[b]? = ac (.cells #[.int .i64 ((n + (aL (l.take k) d lo).length : Nat) : Int), seeV bw] 183 (0, 0)) /\ Gw Wb W W2 b /\ (aL (l.take k) d lo).any f = J)) (fun i _ => l.length - (intOf i).toNat)
 case atStart => exact ⟨0, _, rfl, rfl, bi _, ⟨by simpa [aL] using HW.out, ⟨HB.out, ⟨rfl, rfl, rfl, ar _, fun _ _ _ => rfl⟩⟩, by simp [aL]⟩⟩
 case round =>
  obtain ⟨k, W2, rfl, rfl, hk, HK⟩ := hrel
  by_cases hlt : k < l.length
  ·obtain ⟨ad, bb, oo, A5, c5, A9, c9, A12, c12, A13, c13, e1, he, hrg, l5, g5, l9, g9, l12, g12, l13, g13⟩ := st_kid HC.out hlt
   cases e1
   have hk1 : (k : Int) < (l.length : Int) := by omega
   have MEM := iK hlt
   have IH1 := I (IH.out _ MEM)
   have FM := I (st_form (bd_mem HF.out MEM))
   have BK := I (ae (gG MEM) (bH (aQ l (k : Int))))
   have SP := I (stThs_split l k hlt d lo)
   have T := I (congrArg (fun l => aL l d lo) (fA hlt))
   clear MEM
   have kk : (aQ l (k : Int)).f0 = 1 \/ (aQ l (k : Int)).f0 = 2 \/ (aQ l (k : Int)).f0 = 3 \/ (aQ l (k : Int)).f0 = 4 \/ (aQ l (k : Int)).f0 = 5 := by have := FM.out.1; have := FM.out.2.1; omega
   generalize aQ l (k : Int) = y at *
   have ST := I (show StAt Wb (.pointer (ac ⟨bb, oo, ag⟩)) y from ⟨⟨bb, oo, ag⟩, A5, c5, A9, c9, A12, c12, A13, c13, rfl, hrg, l5, g5, l9, g9, l12, g12, l13, g13⟩)
   have EA := I (show ExAt Wb (.pointer (ac ⟨bb, oo + 2, ag⟩)) y.f2 from ⟨⟨bb, oo + 2, ag⟩, A5, c5, rfl, range_sub 2 hrg (fun j v hj => by match j, hj with | 0, hj => exact hj | 1, hj => exact hj | 2, hj => exact hj | 3, hj => exact hj | j + 4, hj => simp at hj), l5, g5⟩)
   have EE := I (show ExAt Wb (.pointer (ac ⟨bb, oo + 6, ag⟩)) y.f3 from ⟨⟨bb, oo + 6, ag⟩, A9, c9, rfl, range_sub 6 hrg (fun j v hj => by match j, hj with | 0, hj => exact hj | 1, hj => exact hj | 2, hj => exact hj | 3, hj => exact hj | j + 4, hj => simp at hj), l9, g9⟩)
   have RG := I hrg
   have K := I (ae l12 (ae g12 (ae l13 g13)))
   clear hrg l5 g5 l9 g9 l12 g12 l13 g13
   have NB := I (show n + (aL (l.take k) d lo).length + ((stTh y d lo).length + (aL (l.drop (k + 1)) d lo).length) < 4611686018427387904 by have h1 := HN.out.1; rw [SP.out, ay, ay] at h1; omega)
   go_wp2_with fail
   refine (nB HS.out HBB.out W2 (n + (aL (l.take k) d lo).length) (by have := NB.out; omega) (.pointer ag) (.pointer (ac ⟨bb, oo, ag⟩)) (.pointer ag) 0 (d : Int) (.pointer lq) (.stmt y d lo) (HRR.out _ (by rw [SP.out, dR]; simp)) HK.out.2.1.below HK.out.1 ⟨rfl, ST.out, rfl, rfl, HSC.out.step HW.out HK.out.2.1.grown⟩).mono ?_
   rintro _ W3 ⟨rfl, hw1, hg1⟩
   rcases aJ (f (.stmt y d lo)) with hf | hf
   ·rw [hf]
    refine ⟨rfl, ?_, ?_, HK.out.2.1.trans hg1⟩
    ·rw [SP.out, fE HK.out.2.2, dR, gq, pV, if_pos hf]
    ·intro h
     rw [SP.out, dR, gr, gr, jn, hf] at h
     simp at h
   rw [hf]
   have H1 := I (show W3.heap[b]? = ac (.cells #[.int .i64 ((n + (aL (l.take k) d lo ++ [Th.stmt y d lo]).length : Nat) : Int), seeV bw] 183 (0, 0)) /\ Gw Wb W W3 b /\ (aL (l.take k) d lo ++ [Th.stmt y d lo]).any f = J from ⟨by rw [ay, bk, <- ic]; exact hw1, HK.out.2.1.trans hg1, by rw [gr, HK.out.2.2]; simp [hf]⟩)
   clear hw1 hg1 hf
   rw [show outE J (n + (aL (l.take k) d lo).length) = .returned (.tuple #[]) from rfl]
   have q0 : W3.cell? ⟨bb, oo, ag⟩ = ac (.int .i64 y.f0) := aE H1.out.2.1.below (RG.out 0 _ rfl)
   rcases kk with h0 | h0 | h0 | h0 | h0
   ·rw [h0] at q0
    have H0 := I h0
    clear h0
    have SPK := I (show stTh y d lo = Th.stmt y d lo :: ((dX y.f3 lo)) by
     have FE := FM.out.2.2.1 (by have := H0.out; omega)
     rw [dR]
     simp [H0.out, FE.1, FE.2, aL])
    go_wp2_with fail
    have FULL := I (show aL l d lo = (aL (l.take k) d lo ++ [Th.stmt y d lo]) ++ (dX y.f3 lo ++ (aL (l.drop (k + 1)) d lo)) by rw [SP.out, SPK.out]; simp)
    have BN := I (show n + (aL (l.take k) d lo ++ [Th.stmt y d lo]).length + (dX y.f3 lo).length < 4611686018427387904 by have h1 := HN.out.1; rw [FULL.out] at h1; simp only [ay] at h1 ⊢; omega)
    have C := j7 HS.out HBB.out _ y.f3 (ar _) W3 (n + (aL (l.take k) d lo ++ [Th.stmt y d lo]).length) (.pointer (ac ⟨bb, oo + 6, ag⟩)) (.pointer lq) lo (fun t ht => HRR.out t (by rw [FULL.out]; simp [ht])) H1.out.2.1.below H1.out.1 EE.out (HSC.out.step HW.out H1.out.2.1.grown) (by have := BN.out; rw [cG] at this; exact this)
    refine C.mono ?_
    clear C
    rintro _ W4 ⟨rfl, hw3, hg3⟩
    rcases aJ ((dX y.f3 lo).any f) with ha | ha
    ·obtain ⟨mm, hm⟩ := gK (n := n + (aL (l.take k) d lo ++ [Th.stmt y d lo]).length) ha
     rw [hm]
     refine ⟨rfl, ?_, ?_, H1.out.2.1.trans hg3⟩
     ·rw [FULL.out, fE H1.out.2.2, fO ha, <- hm]
     ·intro h
      rw [FULL.out] at h
      simp [ha] at h
    have H2 := I (show W4.heap[b]? = ac (.cells #[.int .i64 ((n + (aL (l.take k) d lo ++ [Th.stmt y d lo] ++ dX y.f3 lo).length : Nat) : Int), seeV bw] 183 (0, 0)) /\ Gw Wb W W4 b /\ (aL (l.take k) d lo ++ [Th.stmt y d lo] ++ dX y.f3 lo).any f = J from ⟨by rw [ay, cG, <- ic]; exact hw3 ha, H1.out.2.1.trans hg3, by rw [gr, H1.out.2.2, ha]; rfl⟩)
    rw [fF ha]
    clear ha hw3 hg3 FULL BN
    go_wp2_with fail
    have HX := I (show aL (l.take k) d lo ++ [Th.stmt y d lo] ++ dX y.f3 lo = aL (l.take (k + 1)) d lo by
     have h2 := T.out
     simp only [eY] at h2
     rw [h2, SPK.out] <;> simp)
    refine ⟨⟨k + 1, W4, by go_num, rfl, by omega, ⟨?_, H2.out.2.1, ?_⟩⟩, by simp [intOf]; omega⟩
    ·rw [<- HX.out]
     exact H2.out.1
    ·rw [<- HX.out]
     exact H2.out.2.2
   ·rw [h0] at q0
    have H0 := I h0
    clear h0
    have SPK := I (show stTh y d lo = Th.stmt y d lo :: ((dX y.f2 lo) ++ (dX y.f3 lo)) by
     have FE := FM.out.2.2.1 (by have := H0.out; omega)
     rw [dR]
     simp [H0.out, FE.1, FE.2, aL])
    go_wp2_with fail
    have FULL := I (show aL l d lo = (aL (l.take k) d lo ++ [Th.stmt y d lo]) ++ (dX y.f2 lo ++ (dX y.f3 lo ++ (aL (l.drop (k + 1)) d lo))) by rw [SP.out, SPK.out]; simp)
    have BN := I (show n + (aL (l.take k) d lo ++ [Th.stmt y d lo]).length + (dX y.f2 lo).length < 4611686018427387904 by have h1 := HN.out.1; rw [FULL.out] at h1; simp only [ay] at h1 ⊢; omega)
    have C := j7 HS.out HBB.out _ y.f2 (ar _) W3 (n + (aL (l.take k) d lo ++ [Th.stmt y d lo]).length) (.pointer (ac ⟨bb, oo + 2, ag⟩)) (.pointer lq) lo (fun t ht => HRR.out t (by rw [FULL.out]; simp [ht])) H1.out.2.1.below H1.out.1 EA.out (HSC.out.step HW.out H1.out.2.1.grown) (by have := BN.out; rw [cG] at this; exact this)
    refine C.mono ?_
    clear C
    rintro _ W4 ⟨rfl, hw3, hg3⟩
    rcases aJ ((dX y.f2 lo).any f) with ha | ha
    ·obtain ⟨mm, hm⟩ := gK (n := n + (aL (l.take k) d lo ++ [Th.stmt y d lo]).length) ha
     rw [hm]
     refine ⟨rfl, ?_, ?_, H1.out.2.1.trans hg3⟩
     ·rw [FULL.out, fE H1.out.2.2, fO ha, <- hm]
     ·intro h
      rw [FULL.out] at h
      simp [ha] at h
    have H2 := I (show W4.heap[b]? = ac (.cells #[.int .i64 ((n + (aL (l.take k) d lo ++ [Th.stmt y d lo] ++ dX y.f2 lo).length : Nat) : Int), seeV bw] 183 (0, 0)) /\ Gw Wb W W4 b /\ (aL (l.take k) d lo ++ [Th.stmt y d lo] ++ dX y.f2 lo).any f = J from ⟨by rw [ay, cG, <- ic]; exact hw3 ha, H1.out.2.1.trans hg3, by rw [gr, H1.out.2.2, ha]; rfl⟩)
    rw [fF ha]
    clear ha hw3 hg3 FULL BN
    go_wp2_with fail
    have FULL := I (show aL l d lo = (aL (l.take k) d lo ++ [Th.stmt y d lo] ++ dX y.f2 lo) ++ (dX y.f3 lo ++ (aL (l.drop (k + 1)) d lo)) by rw [SP.out, SPK.out]; simp)
    have BN := I (show n + (aL (l.take k) d lo ++ [Th.stmt y d lo] ++ dX y.f2 lo).length + (dX y.f3 lo).length < 4611686018427387904 by have h1 := HN.out.1; rw [FULL.out] at h1; simp only [ay] at h1 ⊢; omega)
    have C := j7 HS.out HBB.out _ y.f3 (ar _) W4 (n + (aL (l.take k) d lo ++ [Th.stmt y d lo] ++ dX y.f2 lo).length) (.pointer (ac ⟨bb, oo + 6, ag⟩)) (.pointer lq) lo (fun t ht => HRR.out t (by rw [FULL.out]; simp [ht])) H2.out.2.1.below H2.out.1 EE.out (HSC.out.step HW.out H2.out.2.1.grown) (by have := BN.out; rw [cG] at this; exact this)
    refine C.mono ?_
    clear C
    rintro _ W5 ⟨rfl, hw3, hg3⟩
    rcases aJ ((dX y.f3 lo).any f) with ha | ha
    ·obtain ⟨mm, hm⟩ := gK (n := n + (aL (l.take k) d lo ++ [Th.stmt y d lo] ++ dX y.f2 lo).length) ha
     rw [hm]
     refine ⟨rfl, ?_, ?_, H2.out.2.1.trans hg3⟩
     ·rw [FULL.out, fE H2.out.2.2, fO ha, <- hm]
     ·intro h
      rw [FULL.out] at h
      simp [ha] at h
    have H3 := I (show W5.heap[b]? = ac (.cells #[.int .i64 ((n + (aL (l.take k) d lo ++ [Th.stmt y d lo] ++ dX y.f2 lo ++ dX y.f3 lo).length : Nat) : Int), seeV bw] 183 (0, 0)) /\ Gw Wb W W5 b /\ (aL (l.take k) d lo ++ [Th.stmt y d lo] ++ dX y.f2 lo ++ dX y.f3 lo).any f = J from ⟨by rw [ay, cG, <- ic]; exact hw3 ha, H2.out.2.1.trans hg3, by rw [gr, H2.out.2.2, ha]; rfl⟩)
    rw [fF ha]
    clear ha hw3 hg3 FULL BN
    go_wp2_with fail
    have HX := I (show aL (l.take k) d lo ++ [Th.stmt y d lo] ++ dX y.f2 lo ++ dX y.f3 lo = aL (l.take (k + 1)) d lo by
     have h2 := T.out
     simp only [eY] at h2
     rw [h2, SPK.out] <;> simp)
    refine ⟨⟨k + 1, W5, by go_num, rfl, by omega, ⟨?_, H3.out.2.1, ?_⟩⟩, by simp [intOf]; omega⟩
    ·rw [<- HX.out]
     exact H3.out.1
    ·rw [<- HX.out]
     exact H3.out.2.2
   ·rw [h0] at q0
    have H0 := I h0
    clear h0
    have SPK := I (show stTh y d lo = Th.stmt y d lo :: ((dX y.f3 lo) ++ (aL y.f6 (d + 1) lo) ++ (aL y.f7 (d + 1) lo)) by
     skip
     rw [dR]
     simp [H0.out, inLoop])
    have KQ := I (ae (RG.out 12 _ rfl) (RG.out 13 _ rfl))
    go_wp2_with fail
    have FULL := I (show aL l d lo = (aL (l.take k) d lo ++ [Th.stmt y d lo]) ++ (dX y.f3 lo ++ (aL y.f6 (d + 1) lo ++ (aL y.f7 (d + 1) lo ++ (aL (l.drop (k + 1)) d lo)))) by rw [SP.out, SPK.out]; simp)
    have BN := I (show n + (aL (l.take k) d lo ++ [Th.stmt y d lo]).length + (dX y.f3 lo).length < 4611686018427387904 by have h1 := HN.out.1; rw [FULL.out] at h1; simp only [ay] at h1 ⊢; omega)
    have C := j7 HS.out HBB.out _ y.f3 (ar _) W3 (n + (aL (l.take k) d lo ++ [Th.stmt y d lo]).length) (.pointer (ac ⟨bb, oo + 6, ag⟩)) (.pointer lq) lo (fun t ht => HRR.out t (by rw [FULL.out]; simp [ht])) H1.out.2.1.below H1.out.1 EE.out (HSC.out.step HW.out H1.out.2.1.grown) (by have := BN.out; rw [cG] at this; exact this)
    refine C.mono ?_
    clear C
    rintro _ W4 ⟨rfl, hw3, hg3⟩
    rcases aJ ((dX y.f3 lo).any f) with ha | ha
    ·obtain ⟨mm, hm⟩ := gK (n := n + (aL (l.take k) d lo ++ [Th.stmt y d lo]).length) ha
     rw [hm]
     refine ⟨rfl, ?_, ?_, H1.out.2.1.trans hg3⟩
     ·rw [FULL.out, fE H1.out.2.2, fO ha, <- hm]
     ·intro h
      rw [FULL.out] at h
      simp [ha] at h
    have H2 := I (show W4.heap[b]? = ac (.cells #[.int .i64 ((n + (aL (l.take k) d lo ++ [Th.stmt y d lo] ++ dX y.f3 lo).length : Nat) : Int), seeV bw] 183 (0, 0)) /\ Gw Wb W W4 b /\ (aL (l.take k) d lo ++ [Th.stmt y d lo] ++ dX y.f3 lo).any f = J from ⟨by rw [ay, cG, <- ic]; exact hw3 ha, H1.out.2.1.trans hg3, by rw [gr, H1.out.2.2, ha]; rfl⟩)
    rw [fF ha]
    clear ha hw3 hg3 FULL BN
    have q20 : W4.cell? ⟨bb, oo + 12, ag⟩ = ac (.slice A12 y.f6.length c12) := aE H2.out.2.1.below KQ.out.1
    go_wp2_with fail
    have FULL := I (show aL l d lo = (aL (l.take k) d lo ++ [Th.stmt y d lo] ++ dX y.f3 lo) ++ (aL y.f6 (d + 1) lo ++ (aL y.f7 (d + 1) lo ++ (aL (l.drop (k + 1)) d lo))) by rw [SP.out, SPK.out]; simp)
    have BN := I (show n + (aL (l.take k) d lo ++ [Th.stmt y d lo] ++ dX y.f3 lo).length + (aL y.f6 (d + 1) lo).length < 4611686018427387904 by have h1 := HN.out.1; rw [FULL.out] at h1; simp only [ay] at h1 ⊢; omega)
    have C := IH1.out.1 W4 (n + (aL (l.take k) d lo ++ [Th.stmt y d lo] ++ dX y.f3 lo).length) (.pointer lq) lo A12 c12 (d + 1) (wrap64 ((d : Int) + 1)) (fun t ht => HRR.out t (by rw [FULL.out]; simp [ht])) (kT (by have := HN.out.2; omega)) FM.out.2.2.2.2.1 H2.out.2.1.below H2.out.1 K.out.2.1 K.out.1 (HSC.out.step HW.out H2.out.2.1.grown) BN.out (by have h1 := HN.out.2; have h2 := BK.out; omega)
    refine C.mono ?_
    clear C
    rintro _ W5 ⟨rfl, hw3, hg3⟩
    rcases aJ ((aL y.f6 (d + 1) lo).any f) with ha | ha
    ·obtain ⟨mm, hm⟩ := gK (n := n + (aL (l.take k) d lo ++ [Th.stmt y d lo] ++ dX y.f3 lo).length) ha
     rw [hm]
     refine ⟨rfl, ?_, ?_, H2.out.2.1.trans hg3⟩
     ·rw [FULL.out, fE H2.out.2.2, fO ha, <- hm]
     ·intro h
      rw [FULL.out] at h
      simp [ha] at h
    have H3 := I (show W5.heap[b]? = ac (.cells #[.int .i64 ((n + (aL (l.take k) d lo ++ [Th.stmt y d lo] ++ dX y.f3 lo ++ aL y.f6 (d + 1) lo).length : Nat) : Int), seeV bw] 183 (0, 0)) /\ Gw Wb W W5 b /\ (aL (l.take k) d lo ++ [Th.stmt y d lo] ++ dX y.f3 lo ++ aL y.f6 (d + 1) lo).any f = J from ⟨by rw [ay, <- ic]; exact hw3 ha, H2.out.2.1.trans hg3, by rw [gr, H2.out.2.2, ha]; rfl⟩)
    rw [fF ha]
    clear ha hw3 hg3 FULL BN
    have q21 : W5.cell? ⟨bb, oo + 13, ag⟩ = ac (.slice A13 y.f7.length c13) := aE H3.out.2.1.below KQ.out.2
    go_wp2_with fail
    have FULL := I (show aL l d lo = (aL (l.take k) d lo ++ [Th.stmt y d lo] ++ dX y.f3 lo ++ aL y.f6 (d + 1) lo) ++ (aL y.f7 (d + 1) lo ++ (aL (l.drop (k + 1)) d lo)) by rw [SP.out, SPK.out]; simp)
    have BN := I (show n + (aL (l.take k) d lo ++ [Th.stmt y d lo] ++ dX y.f3 lo ++ aL y.f6 (d + 1) lo).length + (aL y.f7 (d + 1) lo).length < 4611686018427387904 by have h1 := HN.out.1; rw [FULL.out] at h1; simp only [ay] at h1 ⊢; omega)
    have C := IH1.out.2 W5 (n + (aL (l.take k) d lo ++ [Th.stmt y d lo] ++ dX y.f3 lo ++ aL y.f6 (d + 1) lo).length) (.pointer lq) lo A13 c13 (d + 1) (wrap64 ((d : Int) + 1)) (fun t ht => HRR.out t (by rw [FULL.out]; simp [ht])) (kT (by have := HN.out.2; omega)) FM.out.2.2.2.2.2 H3.out.2.1.below H3.out.1 K.out.2.2.2 K.out.2.2.1 (HSC.out.step HW.out H3.out.2.1.grown) BN.out (by have h1 := HN.out.2; have h2 := BK.out; omega)
    refine C.mono ?_
    clear C
    rintro _ W6 ⟨rfl, hw3, hg3⟩
    rcases aJ ((aL y.f7 (d + 1) lo).any f) with ha | ha
    ·obtain ⟨mm, hm⟩ := gK (n := n + (aL (l.take k) d lo ++ [Th.stmt y d lo] ++ dX y.f3 lo ++ aL y.f6 (d + 1) lo).length) ha
     rw [hm]
     refine ⟨rfl, ?_, ?_, H3.out.2.1.trans hg3⟩
     ·rw [FULL.out, fE H3.out.2.2, fO ha, <- hm]
     ·intro h
      rw [FULL.out] at h
      simp [ha] at h
    have H4 := I (show W6.heap[b]? = ac (.cells #[.int .i64 ((n + (aL (l.take k) d lo ++ [Th.stmt y d lo] ++ dX y.f3 lo ++ aL y.f6 (d + 1) lo ++ aL y.f7 (d + 1) lo).length : Nat) : Int), seeV bw] 183 (0, 0)) /\ Gw Wb W W6 b /\ (aL (l.take k) d lo ++ [Th.stmt y d lo] ++ dX y.f3 lo ++ aL y.f6 (d + 1) lo ++ aL y.f7 (d + 1) lo).any f = J from ⟨by rw [ay, <- ic]; exact hw3 ha, H3.out.2.1.trans hg3, by rw [gr, H3.out.2.2, ha]; rfl⟩)
    rw [fF ha]
    clear ha hw3 hg3 FULL BN
    go_wp2_with fail
    have HX := I (show aL (l.take k) d lo ++ [Th.stmt y d lo] ++ dX y.f3 lo ++ aL y.f6 (d + 1) lo ++ aL y.f7 (d + 1) lo = aL (l.take (k + 1)) d lo by
     have h2 := T.out
     simp only [eY] at h2
     rw [h2, SPK.out] <;> simp)
    refine ⟨⟨k + 1, W6, by go_num, rfl, by omega, ⟨?_, H4.out.2.1, ?_⟩⟩, by simp [intOf]; omega⟩
    ·rw [<- HX.out]
     exact H4.out.1
    ·rw [<- HX.out]
     exact H4.out.2.2
   ·rw [h0] at q0
    have H0 := I h0
    clear h0
    have SPK := I (show stTh y d lo = Th.stmt y d lo :: ((aL y.f6 (d + 1) (lo ++ [y.f1]))) by
     have FE := FM.out.2.2.2.1 H0.out
     rw [dR]
     simp [H0.out, FE, aL, inLoop])
    have FULL := I (show aL l d lo = (aL (l.take k) d lo ++ [Th.stmt y d lo]) ++ (aL y.f6 (d + 1) (lo ++ [y.f1]) ++ (aL (l.drop (k + 1)) d lo)) by rw [SP.out, SPK.out]; simp)
    have BN := I (show n + (aL (l.take k) d lo ++ [Th.stmt y d lo]).length + (aL y.f6 (d + 1) (lo ++ [y.f1])).length < 4611686018427387904 by have h1 := HN.out.1; rw [FULL.out] at h1; simp only [ay] at h1 ⊢; omega)
    go_upto_region 15 with (fail)
    have t12 : ∀ g' : G W3, g'.W.cell? ⟨bb, oo + 12, ag⟩ = ac (.slice A12 y.f6.length c12) := fun g' => aE g'.below (aE H1.out.2.1.below (RG.out 12 _ rfl))
    have t1 : ∀ g' : G W3, g'.W.cell? ⟨bb, oo + 1, ag⟩ = ac (.string y.f1) := fun g' => aE g'.below (aE H1.out.2.1.below (RG.out 1 _ rfl))
    refine fZ (n := 15) (S := fun w' => ∃ g' : G W3, w' = g'.W) (ds := [14]) #[J, J, J, J, J, J, J, J, J, J, J, J, J, J, J] (by kernel_rfl) rfl rfl ⟨mkG (aq _ _).drew, rfl⟩ (fun hHeld => ?_)
    obtain ⟨gd, hgd⟩ := hHeld
    rw [hgd]
    clear hgd
    refine bB (i := 0) (N := ac 72) (v := ?_) (a' := ?_) #[af, J, J, J, J, J, J, J, J, J, J, J, J, J, J] rfl rfl (by kernel_rfl) (fun _ _ _ h => h) (bg ⟨by rfl, ?_⟩) ?_ ?_
    rotate_left
    ·intro w'
     go_simp
     with_reducible rfl
    rotate_left
    ·simp only [ax, aa, ah, ai, aN, aM]
     rfl
    refine bB (i := 1) (N := ac 73) (v := ?_) (a' := ?_) #[af, af, J, J, J, J, J, J, J, J, J, J, J, J, J] rfl rfl (by kernel_rfl) (fun _ _ _ h => h) (bg ⟨by rfl, ?_⟩) ?_ ?_
    rotate_left
    ·intro w'
     go_simp
     with_reducible rfl
    rotate_left
    ·simp only [ax, aa, ah, ai, aN, aM]
     rfl
    refine bB (i := 2) (N := ac 74) (v := ?_) (a' := ?_) #[af, af, af, J, J, J, J, J, J, J, J, J, J, J, J] rfl rfl (by kernel_rfl) (fun _ _ _ h => h) (bg ⟨by rfl, ?_⟩) ?_ ?_
    rotate_left
    ·intro w'
     go_simp
     with_reducible rfl
    rotate_left
    ·simp only [ax, aa, ah, ai, aN, aM]
     rfl
    refine bB (i := 3) (N := ac 75) (v := ?_) (a' := ?_) #[af, af, af, af, J, J, J, J, J, J, J, J, J, J, J] rfl rfl (by kernel_rfl) (fun _ _ _ h => h) (bg ⟨by rfl, ?_⟩) ?_ ?_
    rotate_left
    ·intro w'
     go_simp
     with_reducible rfl
    rotate_left
    ·simp only [ax, aa, ah, ai, aN, aM]
     rfl
    refine bB (i := 5) (N := ac 77) (v := ?_) (a' := ?_) #[af, af, af, af, J, af, J, J, J, J, J, J, J, J, J] rfl rfl (by kernel_rfl) (fun _ _ _ h => h) (bg ⟨by rfl, ?_⟩) ?_ ?_
    rotate_left
    ·intro w'
     go_simp
     with_reducible rfl
    rotate_left
    ·simp only [ax, aa, ah, ai, aN, aM]
     rfl
    refine bB (i := 6) (N := ac 78) (v := ?_) (a' := ?_) #[af, af, af, af, J, af, af, J, J, J, J, J, J, J, J] rfl rfl (by kernel_rfl) (fun _ _ _ h => h) (bg ⟨by rfl, ?_⟩) ?_ ?_
    rotate_left
    ·intro w'
     go_simp
     with_reducible rfl
    rotate_left
    ·simp only [ax, aa, ah, ai, aN, aM]
     rfl
    refine bB (i := 7) (N := ac 79) (v := ?_) (a' := ?_) #[af, af, af, af, J, af, af, af, J, J, J, J, J, J, J] rfl rfl (by kernel_rfl) (fun _ _ _ h => h) (bg ⟨by rfl, ?_⟩) ?_ ?_
    rotate_left
    ·intro w'
     go_simp
     with_reducible rfl
    rotate_left
    ·simp only [ax, aa, ah, ai, aN, aM]
     rfl
    refine bB (i := 8) (N := ac 80) (v := ?_) (a' := ?_) #[af, af, af, af, J, af, af, af, af, J, J, J, J, J, J] rfl rfl (by kernel_rfl) (fun _ _ _ h => h) (bg ⟨by rfl, ?_⟩) ?_ ?_
    rotate_left
    ·intro w'
     go_simp
     with_reducible rfl
    rotate_left
    ·simp only [ax, aa, ah, ai, aN, aM]
     rfl
    refine bB (i := 9) (N := ac 81) (v := ?_) (a' := ?_) #[af, af, af, af, J, af, af, af, af, af, J, J, J, J, J] rfl rfl (by kernel_rfl) (fun _ _ _ h => h) (bg ⟨by rfl, ?_⟩) ?_ ?_
    rotate_left
    ·intro w'
     go_simp
     with_reducible rfl
    rotate_left
    ·simp only [ax, aa, ah, ai, aN, aM]
     rfl
    refine bB (i := 11) (N := ac 83) (v := ?_) (a' := ?_) #[af, af, af, af, J, af, af, af, af, af, J, af, J, J, J] rfl rfl (by kernel_rfl) (fun _ _ _ h => h) (bg ⟨by rfl, ?_⟩) ?_ ?_
    rotate_left
    ·intro w'
     go_simp
     with_reducible rfl
    rotate_left
    ·simp only [ax, aa, ah, ai, aN, aM]
     rfl
    refine dP (i := 4) (N := ac 76) (v := ?_) (a' := ?_) #[af, af, af, af, af, af, af, af, af, af, J, af, J, J, J] rfl rfl (by kernel_rfl) (fun _ _ _ h => h) (bg ⟨by rfl, ?_⟩) ⟨gd, rfl⟩ ?_ ?_
    rotate_left
    ·rintro w' ⟨g', rfl⟩
     go_simp
     with_reducible rfl
    rotate_left
    ·simp only [ax, aa, ah, ai, aN, aM]
     rfl
    refine dP (i := 10) (N := ac 82) (v := ?_) (a' := ?_) #[af, af, af, af, af, af, af, af, af, af, af, af, J, J, J] rfl rfl (by kernel_rfl) (fun _ _ _ h => h) (bg ⟨by rfl, ?_⟩) ⟨gd, rfl⟩ ?_ ?_
    rotate_left
    ·rintro w' ⟨g', rfl⟩
     go_simp
     with_reducible rfl
    rotate_left
    ·simp only [ax, aa, ah, ai, aN, aM]
     rfl
    refine bB (i := 12) (N := ac 84) (v := ?_) (a' := ?_) #[af, af, af, af, af, af, af, af, af, af, af, af, af, J, J] rfl rfl (by kernel_rfl) (fun _ _ _ h => h) (bg ⟨by rfl, ?_⟩) ?_ ?_
    rotate_left
    ·intro w'
     go_simp
     with_reducible rfl
    rotate_left
    ·simp only [ax, aa, ah, ai, aN, aM]
     rfl
    refine kJ (i := 13) (N := ac 85) #[af, af, af, af, af, af, af, af, af, af, af, af, af, af, J] rfl rfl (by kernel_rfl) (by simp) (fun K9 hK => ?_)
    refine box_step ?hg (N := 85) ?hd (cs := #[.string y.f1, .pointer lq]) (t := 121) ?hr ?_; (case hd => rfl); (case hg => rfl); (case hr => first | (go_simp; done) | (go_simp; rfl))
    intro b9 hb9 w9 hbx hbl
    obtain ⟨ge, rfl⟩ : ∃ g' : G W3, w9 = g'.W := ⟨mkG (gd.below.trans (hbl.mono gd.below.size)), rfl⟩
    refine hK.out _ _ ⟨ge, rfl⟩ (fun _ => ?_)
    clear hK K9
    refine cU (a' := ?_) ?_ ?_
    rotate_left
    ·show ax _ (ac 85) _ = _
     simp only [ax, aa, ah, ai, aN, aM]
     rfl
    have HE := I (show Gw Wb W ge.W b from H1.out.2.1.trans (Gw.of_below b H1.out.2.1.below ge.below))
    have HEB := I (aB H1.out.1 ge.below)
    have HES := I (show dW ge.W (.pointer (ac ⟨b9, 0, ag⟩)) (lo ++ [y.f1]).reverse by rw [List.reverse_append]; exact ⟨b9, .pointer lq, rfl, hbx, (HSC.out.step HW.out H1.out.2.1.grown).below ge.below⟩)
    refine oF (i := 14) (N := ac 86) #[af, af, af, af, af, af, af, af, af, af, af, af, af, af, af] rfl rfl (by kernel_rfl) (by simp) (fun K9 hK => ?_)
    refine callP_ 123 #[.pointer (ac ⟨b, 0, ag⟩), .slice A12 y.f6.length c12, .int .i64 (wrap64 ((d : Int) + 1)), .pointer (ac ⟨b9, 0, ag⟩)] (by rfl) rfl (by first | (go_simp; done) | (go_simp; rfl)) ?_
    have C := IH1.out.1 ge.W (n + (aL (l.take k) d lo ++ [Th.stmt y d lo]).length) (.pointer (ac ⟨b9, 0, ag⟩)) (lo ++ [y.f1]) A12 c12 (d + 1) (wrap64 ((d : Int) + 1)) (fun t ht => HRR.out t (by rw [FULL.out]; simp [ht])) (kT (by have := HN.out.2; omega)) FM.out.2.2.2.2.1 HE.out.below HEB.out K.out.2.1 K.out.1 HES.out BN.out (by have h1 := HN.out.2; have h2 := BK.out; omega)
    refine C.mono ?_
    clear C
    rintro _ W4 ⟨rfl, hw3, hg3⟩
    rcases aJ ((aL y.f6 (d + 1) (lo ++ [y.f1])).any f) with ha | ha
    ·right
     obtain ⟨mm, hm⟩ := gK (n := n + (aL (l.take k) d lo ++ [Th.stmt y d lo]).length) ha
     rw [hm]
     refine ⟨_, rfl, rfl, ?_, ?_, HE.out.trans hg3⟩
     ·rw [FULL.out, fE H1.out.2.2, fO ha, <- hm]
     ·intro h
      rw [FULL.out] at h
      simp [ha] at h
    have H2 := I (show W4.heap[b]? = ac (.cells #[.int .i64 ((n + (aL (l.take k) d lo ++ [Th.stmt y d lo] ++ aL y.f6 (d + 1) (lo ++ [y.f1])).length : Nat) : Int), seeV bw] 183 (0, 0)) /\ Gw Wb W W4 b /\ (aL (l.take k) d lo ++ [Th.stmt y d lo] ++ aL y.f6 (d + 1) (lo ++ [y.f1])).any f = J from ⟨by rw [ay, <- ic]; exact hw3 ha, HE.out.trans hg3, by rw [gr, H1.out.2.2, ha]; rfl⟩)
    left
    refine ⟨.tuple #[], by rw [fF ha], ?_⟩
    clear ha hw3 hg3
    refine hK.out _ _ ?_
    clear hK K9
    refine cU (a' := ?_) ?_ ?_
    rotate_left
    ·show ax _ (ac 86) _ = _
     simp only [ax, aa, ah, ai, aN, aM]
     rfl
    refine kH (by kernel_rfl) ?_
    clear t12 t1
    go_wp2_with fail
    have HX := I (show aL (l.take k) d lo ++ [Th.stmt y d lo] ++ aL y.f6 (d + 1) (lo ++ [y.f1]) = aL (l.take (k + 1)) d lo by
     have h2 := T.out
     simp only [eY] at h2
     rw [h2, SPK.out] <;> simp)
    refine ⟨⟨k + 1, W4, by go_num, rfl, by omega, ⟨?_, H2.out.2.1, ?_⟩⟩, by simp [intOf]; omega⟩
    ·rw [<- HX.out]
     exact H2.out.1
    ·rw [<- HX.out]
     exact H2.out.2.2
   ·rw [h0] at q0
    have H0 := I h0
    clear h0
    have SPK := I (show stTh y d lo = Th.stmt y d lo :: ([]) by
     have FE := FM.out.2.2.1 (by have := H0.out; omega)
     rw [dR]
     simp [H0.out, FE.1, FE.2, aL])
    go_wp2_with fail
    have HX := I (show aL (l.take k) d lo ++ [Th.stmt y d lo] = aL (l.take (k + 1)) d lo by
     have h2 := T.out
     simp only [eY] at h2
     rw [h2, SPK.out] <;> simp)
    refine ⟨⟨k + 1, W3, by go_num, rfl, by omega, ⟨?_, H1.out.2.1, ?_⟩⟩, by simp [intOf]; omega⟩
    ·rw [<- HX.out]
     exact H1.out.1
    ·rw [<- HX.out]
     exact H1.out.2.2
  ·go_wp2_with fail
   first | go_end0 | skip
   have hke : k = l.length := by omega
   have h1 := HK.out
   rw [hke, di] at h1
   exact ⟨(fF h1.2.2).symm, fun _ => h1.1, h1.2.1⟩
theorem wstmts_calls {Wb : World} {bw b : Nat} {R : Th -> Prop} {f : Th -> Bool} (hs : SeeOK Wb bw R f) (hbb : Wb.heap.size <= b) : ∀ (n : Nat) (l : List S119), cd l <= n -> WStmts Wb bw b R f l := by
 intro n
 induction n with
 | zero => intro l h; cases l <;> simp at h <;> omega
 | succ n ih =>
   intro l h
   refine wstmts_walk hs hbb l fun x hx => ?_
   have h1 := eu hx
   obtain ⟨a, b, c, d, e, f, g, k⟩ := x
   simp only [S119.mk.sizeOf_spec] at h1
   exact ⟨ih _ (by show cd g <= n; omega), ih _ (by show cd k <= n; omega)⟩
end
section
attribute [local go_sem] G.cell
theorem wp_name {P : Program} {c : Code} {Q : Exit -> Act -> World -> Prop} {a : Act} {w : World} (h : ∀ X, X = w -> c.wp P Q a X) : c.wp P Q a w := h w rfl
theorem Gw.out {Wb W X W' : World} {b : Nat} (h : Gw Wb X W' b) (hX : Below W.heap.size W X) (hb : W.heap.size <= b) : Below W.heap.size W W' :=
 ⟨h.grown.os.trans hX.os, h.grown.tape.trans hX.tape, h.grown.output.trans hX.output, bh hX.size h.grown.size, fun i hi => (h.grown.block i (bq hi hX.size) (fun e => by injection e with e; omega)).trans (hX.block i hi)⟩
def outA (f : Th -> Bool) (l : List Th) : Ending := if l.any f = af then pV f 0 l else .returned (.int .i64 (l.length : Int))
theorem decls_split (ds : List S70) (k : Nat) (hk : k < ds.length) : (br ds.length).map Th.decl = (br k).map Th.decl ++ ([Th.decl k] ++ ((br ds.length).drop (k + 1)).map Th.decl) := by
 have h : (br ds.length) = br k ++ ([k] ++ (br ds.length).drop (k + 1)) := by
  have h1 := (List.take_append_drop (k + 1) (br ds.length)).symm
  rw [List.take_range, cy (by omega), js, dr] at h1
  exact h1
 conv => lhs; rw [h]
 rw [fg, fg]
 rfl
set_option maxRecDepth 100000 in
theorem all_calls {Wb : World} {bw : Nat} {R : Th -> Prop} {f : Th -> Bool} (hs : SeeOK Wb bw R f) (nm : ByteArray) (wd ln : Int) (ds : List S70) (bd : List S119) (A3 : Option Addr) (c3 : Nat) (A4 : Option Addr) (c4 : Nat) (hp : ProgAt Wb ds bd A3 c3 A4 c4) (hform : bdB bd = af) (hdl : ds.length <= 1048576) (hbb : Ot.bW bd <= 1048576)
 (hR : ∀ t ∈ things ds bd, R t) (W : World) (hB : Below Wb.heap.size Wb W) :
 Calls ak 76 #[.agg #[.string nm, .int .i64 wd, .int .i64 ln, .slice A3 ds.length c3, .slice A4 bd.length c4], seeV bw] W fun r W' => r = outA f (things ds bd) /\ Below W.heap.size W W' := by
 have HS := I hs
 have HRR := I hR
 clear hR
 have HP := I hp
 have HF := I hform
 have HZ := I (ae hdl hbb)
 have HB := I hB
 have hlm := hp.hd.2.1
 have hl4 := hp.hlb
 clear hs hp hform hdl hbb hB
 go_enter Tryz.func76, Tryz.ntmps76
 go_upto_region 2 with (fail)
 refine wp_name ?_
 intro X hX
 have HWX := I (show Below W.heap.size W X by rw [hX]; exact ((aq _ _).alloc (ar _) _).alloc (by simp) _)
 have HBX := I (HB.out.trans (HWX.out.mono HB.out.size))
 have HXb := I (show X.heap[W.heap.size + 1]? = ac (.cells #[.int .i64 ((0 : Nat) : Int), seeV bw] 183 (0, 0)) by rw [hX]; exact heap_alloc2_new _ _ _)
 have HXp := I (show X.heap[W.heap.size]? = ac (.cells #[.string nm, .int .i64 wd, .int .i64 ln, .slice A3 ds.length c3, .slice A4 bd.length c4] 25 (0, 0)) by rw [hX, gn _ _ _ (by simp)]; exact aV _ _)
 clear hX
 have pc : ∀ {W' : World}, Gw Wb X W' (W.heap.size + 1) -> W'.heap[W.heap.size]? = ac (.cells #[.string nm, .int .i64 wd, .int .i64 ln, .slice A3 ds.length c3, .slice A4 bd.length c4] 25 (0, 0)) := fun h => (h.grown.block _ (aW HXp.out) (fun e => by injection e with e; omega)).trans HXp.out
 have x3 : X.cell? ⟨W.heap.size, 3, ag⟩ = ac (.slice A3 ds.length c3) := (aA HXp.out 3).trans rfl
 have x4 : X.cell? ⟨W.heap.size, 4, ag⟩ = ac (.slice A4 bd.length c4) := (aA HXp.out 4).trans rfl
 go_wp2_with fail
 go_loopw [13] (fun i W3 => ∃ (k : Nat) (W2 : World), i = .int .i64 k /\ W2 = W3 /\ k <= ds.length /\ Aside0 (W2.heap[W.heap.size + 1]? = ac (.cells #[.int .i64 (k : Int), seeV bw] 183 (0, 0)) /\ Gw Wb X W2 (W.heap.size + 1) /\ ((br k).map Th.decl).any f = J)) (fun i _ => ds.length - (intOf i).toNat)
 case atStart => exact ⟨0, _, rfl, rfl, bi _, ⟨HXb.out, ⟨HBX.out, ⟨rfl, rfl, rfl, ar _, fun _ _ _ => rfl⟩⟩, by simp⟩⟩
 case round =>
  obtain ⟨k, W2, rfl, rfl, hk, HK⟩ := hrel
  have z3 : W2.cell? ⟨W.heap.size, 3, ag⟩ = ac (.slice A3 ds.length c3) := (aA (pc HK.out.2.1) 3).trans rfl
  have z4 : W2.cell? ⟨W.heap.size, 4, ag⟩ = ac (.slice A4 bd.length c4) := (aA (pc HK.out.2.1) 4).trans rfl
  by_cases hlt : k < ds.length
  ·obtain ⟨ad, A9, c9, e1, _⟩ := dN HP.out.hd (k : Int) (bc _) (by omega)
   cases e1
   have hk1 : (k : Int) < (ds.length : Int) := by omega
   have SP := I (decls_split ds k hlt)
   go_wp2_with fail
   refine (nB HS.out (bh HB.out.size (iy _)) W2 k (by have := HZ.out.1; omega) (.pointer (ac (ad.add (k * 4)))) (.pointer ag) (.pointer ag) 0 0 (.pointer ag) (.decl k) (HRR.out _ (by unfold things; rw [SP.out]; simp)) HK.out.2.1.below HK.out.1 ⟨⟨_, rfl⟩, rfl, rfl, rfl, rfl⟩).mono ?_
   rintro _ W3 ⟨rfl, hw1, hg1⟩
   rcases aJ (f (.decl k)) with hf | hf
   ·rw [hf]
    refine ⟨rfl, ?_, (HK.out.2.1.trans hg1).out HWX.out (iy _)⟩
    have e : pV f 0 (things ds bd) = .panicked (mP k) := by
     unfold things
     rw [SP.out, dr, fE HK.out.2.2, dr, List.singleton_append, pV, if_pos hf]
     simp
    unfold outA
    rw [if_pos (by unfold things; rw [SP.out]; simp [hf]), e]
   ·rw [hf]
    have HN := I (ae hw1 (ae hg1 hf))
    clear hw1 hg1 hf
    rw [show outE J k = .returned (.tuple #[]) from rfl]
    go_wp2_with fail
    refine ⟨⟨k + 1, W3, by go_num, rfl, by omega, ⟨HN.out.1, HK.out.2.1.trans HN.out.2.1, by rw [lM, gr, HK.out.2.2]; simp [HN.out.2.2]⟩⟩, by simp [intOf]; omega⟩
  ·have hke : k = ds.length := by omega
   have hk1 : ¬ (k : Int) < (ds.length : Int) := by omega
   have H0 := I (show ((br ds.length).map Th.decl).any f = J by have := HK.out.2.2; rw [hke] at this; exact this)
   have HL := I (show k + (aL bd 1 []).length = (things ds bd).length by unfold things; rw [hke]; simp)
   clear hke
   go_wp2_with fail
   have hle := cY bd 1 []
   refine (wstmts_calls HS.out (bh HB.out.size (iy _)) _ bd (ar _) W2 k (.pointer ag) [] A4 c4 1 1 (fun t ht => HRR.out t (by unfold things; simp [ht])) rfl HF.out HK.out.2.1.below HK.out.1 HP.out.hb HP.out.hlb rfl (by have := HZ.out; omega) (by have := HZ.out; omega)).mono ?_
   rintro _ W3 ⟨rfl, hw3, hg3⟩
   rcases aJ ((aL bd 1 []).any f) with ha | ha
   ·obtain ⟨mm, hm⟩ := gK (n := k) ha
    rw [hm]
    refine ⟨rfl, ?_, (HK.out.2.1.trans hg3).out HWX.out (iy _)⟩
    unfold outA
    rw [if_pos (by unfold things; rw [gr, ha]; simp), show things ds bd = (br ds.length).map Th.decl ++ aL bd 1 [] from rfl, fE H0.out]
    have hk2 : 0 + ((br ds.length).map Th.decl).length = k := by simp; omega
    rw [hk2]
    exact hm.symm
   ·rw [fF ha]
    have hw4 := hw3 ha
    rw [HL.out] at hw4
    have HA := I (ae ha hg3)
    have u0 : W3.cell? ⟨W.heap.size + 1, 0, ag⟩ = ac (.int .i64 ((things ds bd).length : Int)) := (aA hw4 0).trans rfl
    clear ha hw3 hg3 hw4
    go_wp2_with fail
    go_ret
    refine ⟨?_, (HK.out.2.1.trans HA.out.2).out HWX.out (iy _)⟩
    unfold outA
    rw [if_neg (by unfold things; rw [gr, H0.out, HA.out.1]; simp)]
    rfl
end
section
attribute [local go_sem] G.cell
theorem wpS_norm {P : Program} {c : Code} {Q : Exit -> Act -> List Frame -> World -> Prop} {a a' : Act} {cs : List Frame} {w : World} (h : a = a') (k : c.wpS P Q a' cs w) : c.wpS P Q a cs w := h ▸ k
def j4 (W0 : World) (p1 p2 : Value) (R : Th -> Prop) (f : Th -> Bool) : Prop := ∀ (Wb W : World) (n : Nat) (dp sp ep : Value) (dI : Int) (lp : Value) (t : Th), R t -> Below W0.heap.size W0 Wb -> Below Wb.heap.size Wb W -> ThP Wb W dp sp ep dI lp t ->
 Calls ak 251 #[.agg #[.int .i64 n, dp, sp, ep, .int .i64 dI, lp], p1, p2] W fun r W' => r = .returned (.bool (f t)) /\ Below W.heap.size W W'
set_option maxRecDepth 100000 in
theorem see_ok {W0 Wb : World} {bw : Nat} {p1 p2 : Value} {R : Th -> Prop} {f : Th -> Bool} (hb0 : Below W0.heap.size W0 Wb) (hbw : Wb.heap[bw]? = ac (.cells #[.func (.func 251) #[] #[p1, p2]] 272 (0, 0))) (hw : j4 W0 p1 p2 R f) : SeeOK Wb bw R f := by
 intro W n dp sp ep dI lp t hR hB ht
 have gout := @gA W
 have HRT := I hR
 clear hR
 have HB := I hB
 have HT := I ht
 have HW := I (hw Wb)
 have H0 := I hb0
 have HBW := I ((hB.block bw (aW hbw)).trans hbw)
 have hlt := aW HBW.out
 have z0 : W.cell? ⟨bw, 0, ag⟩ = ac (.func (.func 251) #[] #[p1, p2]) := (aA HBW.out 0).trans rfl
 clear hB ht hw hb0 hbw
 go_enter Tryz.func284, Tryz.ntmps284
 go_upto_region 1 with (fail)
 refine aH ?_
 intro gg
 go_wp2_with fail
 refine (aD (g := gg) (HW.out gg.W n dp sp ep dI lp t HRT.out H0.out (HB.out.trans ((gout gg).mono HB.out.size)) (HT.out.below (gout gg)))).mono ?_
 rintro _ _ ⟨rfl, gg, rfl⟩
 cases hf : f t
 ·have HF := I hf
  clear hf
  go_wp2_with fail
  first | go_end0 | skip
  exact ⟨by rw [HF.out]; rfl, gout _⟩
 ·have HF := I hf
  clear hf
  go_wp2_with fail
  exact ⟨rfl, by rw [HF.out]; rfl, gout _⟩
set_option maxRecDepth 100000 in
theorem catch_idle (a4 a5 : Value) (w : World) : CallsD ak 283 #[a4, a5] .returning w fun e u' w' => e = .returned (.tuple #[]) /\ u' = .returning /\ w' = w := by
 refine callsD_of_wpS Tryz.func283 rfl fun c₀ cs hu => ?_
 apply wpS_seq
 apply wpS_region
 simp [wpOpsS, go_sem, recoverD, hu, Tryz.ntmps283, Exit.thenS]
 refine wpS_of_wp ?_
 go_wp2_with fail
 cases c₀
 simp_all [bodyPostS, results, Tryz.results104]
theorem assert_found (m : Nat) (w : World) : (Instr.typeAssert (.iface 289 (.agg #[.int .i64 m])) 20 289 af).run ak w = .ok (.tuple #[.agg #[.int .i64 m], .bool af]) w := by
 unfold Instr.typeAssert
 simp [go_sem]
set_option maxRecDepth 100000 in
theorem pI (b4 b5 : Nat) (x : Int) (y : Bool) (m : Nat) (w : World) (h4 : w.heap[b4]? = ac (.cells #[.int .i64 x] 3 (0, 0))) (h5 : w.heap[b5]? = ac (.cells #[.bool y] 4 (0, 0))) (hne : b4 ≠ b5) :
 CallsD ak 283 #[.pointer (ac ⟨b4, 0, ag⟩), .pointer (ac ⟨b5, 0, ag⟩)] (.panicking (mP m)) w fun e u' w' =>
  e = .returned (.tuple #[]) /\ u' = .panicking [{ v := .iface 289 (.agg #[.int .i64 m]), recovered := af }] /\ w'.heap[b4]? = ac (.cells #[.int .i64 m] 3 (0, 0)) /\ w'.heap[b5]? = ac (.cells #[.bool af] 4 (0, 0)) /\ (∀ B, B <= b4 -> B <= b5 -> B <= w.heap.size -> Below B w w') := by
 have c4 : w.cell? ⟨b4, 0, ag⟩ = ac (.int .i64 x) := (aA h4 0).trans rfl
 have c5 : w.cell? ⟨b5, 0, ag⟩ = ac (.bool y) := (aA h5 0).trans rfl
 have f4 := aI h4 0
 have f5 := aI h5 0
 refine callsD_of_wpS Tryz.func283 rfl fun c₀ cs hu => ?_
 unfold mP at hu
 apply wpS_seq
 apply wpS_region
 simp [wpOpsS, go_sem, recoverD, hu, Tryz.ntmps283, Exit.thenS]
 refine wpS_norm (a' := { tmps := #[.pointer (ac ⟨b4, 0, ag⟩), .pointer (ac ⟨b5, 0, ag⟩), .iface 289 (.agg #[.int .i64 m]), undef, undef, .iface 289 (.agg #[.int .i64 m]), undef, undef, undef, undef, undef, undef, undef, undef, undef, undef, undef, undef], defers := [] }) (by rfl) ?_
 refine wpS_of_wp ?_
 have hta := assert_found m
 have l4 := aW h4
 have l5 := aW h5
 have n4 : ¬ b4 = b5 := hne
 have n5 : ¬ b5 = b4 := fun e => hne e.symm
 have m4 : ¬ b4 = w.heap.size := by omega
 have m5 : ¬ b5 = w.heap.size := by omega
 have H4 := I h4
 have H5 := I h5
 clear hne h4 h5
 go_wp2_with fail
 refine ⟨rfl, _, rfl, .tuple #[], results_none rfl _ _ _, rfl, rfl, ?_, ?_, fun B hB4 hB5 hBw => (((aq B w).setCell (p := ⟨b4, 0, ag⟩) hB4 _).setCell (p := ⟨b5, 0, ag⟩) hB5 _).alloc (by simpa [iu] using hBw) _⟩
 ·rw [gn _ _ _ (by simpa [iu] using l4), dw _ _ _ _ n4]
  exact bQ H4.out 0 _ rfl
 ·rw [gn _ _ _ (by simpa [iu] using l5)]
  exact bQ ((dw _ _ _ _ n5).trans H5.out) 0 _ rfl
end
section
attribute [local go_sem] G.cell
theorem blk_new' {w : World} {o : Obj} {n : Nat} (h : n = w.heap.size) : (w.alloc o).heap[n]? = ac o := by subst h; exact aV w o
def fD (f : Th -> Bool) (l : List Th) : Int × Bool := match aZ l.length (fun i => f (bM l i)) with
 | some i => ((i : Int), af)
 | none => (0, J)
theorem thAt_lt {l : List Th} {i : Nat} (h : i < l.length) : bM l i = l[i] := by unfold bM; rw [au, az h]; rfl
theorem any_none {f : Th -> Bool} {l : List Th} (h : l.any f = J) : fD f l = (0, J) := by
 unfold fD
 rw [bG fun j hj => ?_]
 rw [List.any_eq_false] at h
 rw [thAt_lt hj]
 simpa using h _ (ef hj)
theorem outL_first {f : Th -> Bool} : ∀ {n : Nat} {l : List Th}, l.any f = af -> ∃ i, i < l.length /\ pV f n l = .panicked (mP (n + i)) /\ f (bM l i) = af /\ ∀ j, j < i -> f (bM l j) = J
 | _, [], h => by simp at h
 | n, t :: r, h => by
   rw [pV]
   by_cases ht : f t = af
   ·exact ⟨0, by simp, by rw [if_pos ht]; rfl, ht, fun j hj => by omega⟩
   ·rw [if_neg ht]
    rw [jn] at h
    obtain ⟨i, h1, h2, h3, h4⟩ := outL_first (n := n + 1) (l := r) (by simpa [ht] using h)
    refine ⟨i + 1, by simp; omega, by rw [h2, show n + 1 + i = n + (i + 1) by omega], h3, fun j hj => ?_⟩
    match j with
    | 0 => exact Bool.eq_false_iff.2 ht
    | j + 1 => exact h4 j (by omega)
theorem any_some {f : Th -> Bool} {l : List Th} (h : l.any f = af) : ∃ i : Nat, pV f 0 l = .panicked (mP i) /\ fD f l = ((i : Int), af) := by
 obtain ⟨i, h1, h2, h3, h4⟩ := outL_first (n := 0) h
 refine ⟨i, by rw [h2, Nat.zero_add], ?_⟩
 unfold fD
 rw [cB h1 h3 h4]
set_option maxRecDepth 100000 in
theorem first_calls {W0 : World} {p1 p2 : Value} {R : Th -> Prop} {f : Th -> Bool} (hw : j4 W0 p1 p2 R f) (nm : ByteArray) (wd ln : Int) (ds : List S70) (bd : List S119) (A3 : Option Addr) (c3 : Nat) (A4 : Option Addr) (c4 : Nat) (W : World) (hp : ProgAt W ds bd A3 c3 A4 c4) (hform : bdB bd = af) (hdl : ds.length <= 1048576) (hbb : Ot.bW bd <= 1048576) (hR : ∀ t ∈ things ds bd, R t) (hB : Below W0.heap.size W0 W) :
 Calls ak 250 #[.agg #[.string nm, .int .i64 wd, .int .i64 ln, .slice A3 ds.length c3, .slice A4 bd.length c4], .func (.func 251) #[] #[p1, p2]] W fun r W' => r = .returned (.tuple #[.int .i64 (fD f (things ds bd)).1, .bool (fD f (things ds bd)).2]) /\ Below W.heap.size W W' := by
 have hmf : ∀ (fn : Fn) (first cap : Array Value) (w : World), (Instr.makeFunc fn first cap).run ak w = .ok (.func fn first cap) w := fun _ _ _ _ => rfl
 have HW := I hw
 have HRR := I hR
 clear hR
 have HP := I hp
 have HZ := I (ae hform (ae hdl hbb))
 have HB := I hB
 clear hw hp hform hdl hbb hB
 go_enter_defers Tryz.func250, Tryz.ntmps250
 go_upto_region 1 with (fail)
 refine wp_name ?_
 intro X hX
 have BX := I (show Below W.heap.size W X by rw [hX]; exact ((((aq _ _).alloc (ar _) _).alloc (by simp) _).alloc (by simp; omega) _).alloc (by simp; omega) _)
 have k3 := I (show X.heap[W.heap.size + 1 + 1 + 1]? = ac (.cells #[.bool J] 4 (0, 0)) by rw [hX]; exact blk_new' (by simp))
 have k2 := I (show X.heap[W.heap.size + 1 + 1]? = ac (.cells #[.int .i64 0] 3 (0, 0)) by rw [hX, gn _ _ _ (by simp)]; exact blk_new' (by simp))
 have k1 := I (show X.heap[W.heap.size + 1]? = ac (.cells #[.func (.func 251) #[] #[p1, p2]] 272 (0, 0)) by rw [hX, gn _ _ _ (by simp), gn _ _ _ (by simp)]; exact blk_new' (by simp))
 have k0 := I (show X.heap[W.heap.size]? = ac (.cells #[.string nm, .int .i64 wd, .int .i64 ln, .slice A3 ds.length c3, .slice A4 bd.length c4] 25 (0, 0)) by rw [hX, gn _ _ _ (by simp; omega), gn _ _ _ (by simp; omega), gn _ _ _ (by simp)]; exact (aV _ _))
 clear hX
 have x0 : X.cell? ⟨W.heap.size, 0, ag⟩ = ac (.string nm) := (aA k0.out 0).trans rfl
 have x1 : X.cell? ⟨W.heap.size, 1, ag⟩ = ac (.int .i64 wd) := (aA k0.out 1).trans rfl
 have x2 : X.cell? ⟨W.heap.size, 2, ag⟩ = ac (.int .i64 ln) := (aA k0.out 2).trans rfl
 have x3 : X.cell? ⟨W.heap.size, 3, ag⟩ = ac (.slice A3 ds.length c3) := (aA k0.out 3).trans rfl
 have x4 : X.cell? ⟨W.heap.size, 4, ag⟩ = ac (.slice A4 bd.length c4) := (aA k0.out 4).trans rfl
 go_wp2_with fail
 refine (all_calls (Wb := X) (bw := W.heap.size + 1) (R := R) (f := f) (see_ok (HB.out.trans (BX.out.mono HB.out.size)) k1.out HW.out) nm wd ln ds bd A3 c3 A4 c4 (HP.out.below BX.out) HZ.out.1 HZ.out.2.1 HZ.out.2.2 HRR.out X (aq _ _)).mono ?_
 rintro _ W1 ⟨rfl, hB1⟩
 have l3 := bq (aW k3.out) hB1.size
 have l2 := bq (aW k2.out) hB1.size
 have j3 := I (aB k3.out hB1)
 have j2 := I (aB k2.out hB1)
 have B1 := I (BX.out.trans (hB1.mono BX.out.size))
 clear hB1 x0 x1 x2 x3 x4
 unfold outA
 rcases aJ ((things ds bd).any f) with ha | ha
 ·obtain ⟨i, hi, hfs⟩ := any_some ha
  rw [if_pos ha, hi]
  refine leaves_cons (f := 283) (args := #[.pointer (ac ⟨W.heap.size + 1 + 1, 0, ag⟩), .pointer (ac ⟨W.heap.size + 1 + 1 + 1, 0, ag⟩)]) (by simp) (by simp [go_sem]) ?_
  refine (pI (W.heap.size + 1 + 1) (W.heap.size + 1 + 1 + 1) 0 J i W1 j2.out j3.out (by omega)).mono ?_
  rintro e u' w'' ⟨rfl, rfl, h4, h5, hb⟩
  have hc4 : w''.cell? ⟨W.heap.size + 1 + 1, 0, ag⟩ = ac (.int .i64 i) := (aA h4 0).trans rfl
  have hc5 : w''.cell? ⟨W.heap.size + 1 + 1 + 1, 0, ag⟩ = ac (.bool af) := (aA h5 0).trans rfl
  have hb2 := I (B1.out.trans (hb W.heap.size (by omega) (by omega) B1.out.size))
  simp [Leaves, settle, results, Tryz.results94, go_sem, mP, hc4, hc5, hfs]
  exact hb2.out
 ·rw [if_neg (by simp [ha])]
  have HA := I ha
  clear ha
  have c4 : W1.cell? ⟨W.heap.size + 1 + 1, 0, ag⟩ = ac (.int .i64 0) := (aA j2.out 0).trans rfl
  have c5 : W1.cell? ⟨W.heap.size + 1 + 1 + 1, 0, ag⟩ = ac (.bool J) := (aA j3.out 0).trans rfl
  have f4 := aI j2.out 0
  have f5 := aI j3.out 0
  go_wp2_with fail
  refine leaves_cons (f := 283) (args := #[.pointer (ac ⟨W.heap.size + 1 + 1, 0, ag⟩), .pointer (ac ⟨W.heap.size + 1 + 1 + 1, 0, ag⟩)]) (by simp) (by simp [go_sem]) ?_
  refine (catch_idle _ _ _).mono ?_
  rintro e u' w'' ⟨rfl, rfl, rfl⟩
  have hfs := any_none HA.out
  have hb2 : Below W.heap.size W ((W1.setCell ⟨W.heap.size + 1 + 1, 0, ag⟩ (.int .i64 0)).setCell ⟨W.heap.size + 1 + 1 + 1, 0, ag⟩ (.bool J)) := (B1.out.setCell (p := ⟨W.heap.size + 1 + 1, 0, ag⟩) (by show W.heap.size <= W.heap.size + 1 + 1; omega) _).setCell (p := ⟨W.heap.size + 1 + 1 + 1, 0, ag⟩) (by show W.heap.size <= W.heap.size + 1 + 1 + 1; omega) _
  simp [Leaves, settle, results, Tryz.results94, go_sem, c4, c5, hfs]
  exact hb2
end
section
attribute [local go_sem] G.cell
theorem dW.one {w : World} : ∀ {l l' : List ByteArray} {v : Value}, dW w v l -> dW w v l' -> l = l'
 | [], [], _, _, _ => rfl
 | [], _ :: _, v, h, ⟨b, nx, hv, _⟩ => by rw [show v = .pointer ag from h] at hv; cases hv
 | _ :: _, [], v, ⟨b, nx, hv, _⟩, h => by rw [show v = .pointer ag from h] at hv; cases hv
 | a :: r, a' :: r', v, ⟨b, nx, hv, hc, hr⟩, ⟨b', nx', hv', hc', hr'⟩ => by
   rw [hv] at hv'
   injection hv' with e
   injection e with e
   injection e with e
   subst e
   rw [hc] at hc'
   injection hc' with e
   injection e with e
   have e1 : Value.string a = .string a' := by have := congrArg (fun x : Array Value => x.getD 0 undef) e; simpa using this
   have e2 : nx = nx' := by have := congrArg (fun x : Array Value => x.getD 1 undef) e; simpa using this
   injection e1 with e1
   subst e1 e2
   rw [dW.one hr hr']
open Classical in
noncomputable def scL (w : World) (v : Value) : List ByteArray := if h : ∃ l, dW w v l then Classical.choose h else []
theorem scL_eq {w : World} {v : Value} {l : List ByteArray} (h : dW w v l) : scL w v = l := by
 unfold scL
 rw [dif_pos ⟨l, h⟩]
 exact dW.one (Classical.choose_spec (⟨l, h⟩ : ∃ l, dW w v l)) h
set_option maxRecDepth 100000 in
theorem has_calls (w : World) (v : Value) (l : List ByteArray) (s : ByteArray) (b : Bool) (hsc : dW w v l) (hb : iC l s = b) : Calls ak 195 #[v, .string s] w fun e w' => e = .returned (.bool b) /\ Below w.heap.size w w' := by
 have HSC := I hsc
 have HB := I hb
 clear hsc hb
 go_enter Tryz.func195, Tryz.ntmps195
 go_wp2_with fail
 go_loopw [0] (fun p W => ∃ (l1 : List ByteArray) (p1 : Value), p1 = p /\ w = W /\ Aside0 (dW w p1 l1 /\ iC l1 s = b)) (fun p _ => (scL w p).length)
 case atStart => exact ⟨l, v, rfl, rfl, ⟨HSC.out, HB.out⟩⟩
 case round =>
  obtain ⟨l1, p1, rfl, rfl, HK⟩ := hrel
  cases l1 with
  | nil =>
    have hp := HK.out.1
    have hb := HK.out.2
    rw [show p1 = .pointer ag from hp]
    go_wp2_with fail
    go_ret
    exact ⟨aC (by rw [<- hb]; rfl), aq _ _⟩
  | cons a r =>
    obtain ⟨c, nx, hv, hc, hr⟩ := HK.out.1
    have hb := HK.out.2
    have HR := I hr
    have HL := I (ae (scL_eq HK.out.1) (scL_eq hr))
    subst hv
    have c0 : w.cell? ⟨c, 0, ag⟩ = ac (.string a) := (aA hc 0).trans rfl
    have c1 : w.cell? ⟨c, 1, ag⟩ = ac nx := (aA hc 1).trans rfl
    obtain ⟨q, rfl⟩ := hr.ptr
    clear hc hr
    by_cases h : a.toList = s.toList
    ·have HH := I hb
     clear hb
     have HE := I h
     have bb : (a.toList == s.toList) = af := beq_iff_eq.mpr h
     clear h
     go_wp2_with fail
     go_ret
     exact ⟨aC (by rw [<- HH.out]; simp [iC, eqS, HE.out]), aq _ _⟩
    ·have HH := I hb
     clear hb
     have HE := I h
     have bb : (a.toList == s.toList) = J := beq_eq_false_iff_ne.mpr h
     clear h
     go_wp2_with fail
     refine ⟨⟨r, _, rfl, by first | rfl | trivial, ⟨HR.out, ?_⟩⟩, ?_⟩
     ·rw [<- HH.out]; simp [iC, eqS, HE.out]
     ·rw [HL.out.1, HL.out.2]; simp
theorem has_v {w : World} {v : Value} {lo : List ByteArray} {s : ByteArray} {b : Bool} (hsc : dW w v lo.reverse) (hb : iC lo s = b) : Calls ak 195 #[v, .string s] w fun e w' => e = .returned (.bool b) /\ Below w.heap.size w w' :=
 has_calls w v lo.reverse s b hsc (by unfold iC at hb ⊢; rw [List.any_reverse]; exact hb)
def FindR (A3 : Option Addr) (ds : List S70) (s : ByteArray) (q : Option Addr) : Prop := (q.isSome = (bZ ds s).isSome) /\ ∀ i, bZ ds s = ac i -> ∃ ad, A3 = ac ad /\ q = ac (ad.add (i * 4))
set_option maxRecDepth 100000 in
theorem find_calls (nm : ByteArray) (wd ln : Int) (ds : List S70) (A3 : Option Addr) (c3 : Nat) (A4 : Option Addr) (n4 c4 : Nat) (s : ByteArray) (w : World) (hd : k70.C w A3 ds.length ds) (hld : ds.length <= c3) :
 Calls ak 181 #[.agg #[.string nm, .int .i64 wd, .int .i64 ln, .slice A3 ds.length c3, .slice A4 n4 c4], .string s] w fun e w' => ∃ q, e = .returned (.pointer q) /\ FindR A3 ds s q /\ Below w.heap.size w w' := by
 have gout := @gA w
 have HD := I hd
 have hlm := hd.2.1
 clear hd
 go_enter Tryz.func181, Tryz.ntmps181
 go_upto_region 2 with (fail)
 refine aH ?_
 intro gg
 go_wp2_with fail
 go_loopw [9] (fun i W => ∃ (k : Nat), i = .int .i64 k /\ W = gg.W /\ k <= ds.length /\ Aside0 (∀ j, j < k -> eqS (aG ds (j : Int)).f1 s = J)) (fun i _ => ds.length - (intOf i).toNat)
 case atStart => exact ⟨0, rfl, rfl, bi _, ⟨fun j hj => absurd hj (cq _)⟩⟩
 case round =>
  obtain ⟨k, rfl, rfl, hk, HK⟩ := hrel
  by_cases hlt : k < ds.length
  ·obtain ⟨ad, A9, c9, e1, q0, q1, q2, q3, l9, g9⟩ := dN HD.out (k : Int) (bc _) (by omega)
   cases e1
   rw [av] at q1
   replace q1 := aE (gout gg) q1
   clear q0 q2 q3 l9 g9
   have hk1 : (k : Int) < (ds.length : Int) := by omega
   by_cases h : (aG ds (k : Int)).f1.toList = s.toList
   ·have HE := I h
    have bb : ((aG ds (k : Int)).f1.toList == s.toList) = af := beq_iff_eq.mpr h
    clear h
    go_wp2_with fail
    go_ret
    have e : bZ ds s = ac k := cB (by omega) (by show eqS _ _ = af; unfold eqS; rw [HE.out]; simp) HK.out
    exact ⟨_, rfl, ⟨by rw [e]; rfl, fun i hi => by rw [e] at hi; injection hi with hi; subst hi; exact ⟨_, rfl, rfl⟩⟩, gout _⟩
   ·have HE := I h
    have bb : ((aG ds (k : Int)).f1.toList == s.toList) = J := beq_eq_false_iff_ne.mpr h
    clear h
    go_wp2_with fail
    refine ⟨⟨k + 1, by go_num, by first | rfl | trivial, by omega, ⟨fun j hj => (gh (j = k)).elim (fun h => by rw [h]; exact decide_eq_false HE.out) (fun h => HK.out j (by omega))⟩⟩, by simp [intOf]; omega⟩
  ·have hk1 : ¬ (k : Int) < (ds.length : Int) := by omega
   go_wp2_with fail
   go_ret
   have e : bZ ds s = ag := bG fun j hj => HK.out j (by omega)
   exact ⟨_, rfl, ⟨by rw [e]; rfl, fun i hi => by rw [e] at hi; cases hi⟩, gout _⟩
theorem pow_table : (br 257).all (fun m => m == 0 || ((bits BinOp.and IntKind.i64 (m : Int) (wrap64 ((m : Int) - 1)) == 0) == cZ (m : Int))) = af := by kernel_rfl
theorem pow_and {n : Int} (h1 : 1 <= n) (h2 : n <= 256) : (bits BinOp.and IntKind.i64 n (wrap64 (n - 1)) == 0) = cZ n := by
 obtain ⟨m, rfl⟩ := dn (show 0 <= n by omega)
 have h := dz.1 pow_table m (ja.2 (by omega))
 have hm : (m == 0) = J := by simp; omega
 rw [hm, Bool.false_or] at h
 exact beq_iff_eq.1 h
theorem pow_out {n : Int} (h : n < 1 \/ 256 < n) : cZ n = J := by
 cases hp : cZ n with
 | false => rfl
 | true => have := qW hp; omega
set_option maxRecDepth 100000 in
theorem kM (n most : Int) (w : World) (hm : most <= 256) (b : Bool) (hb : b = (decide (n <= most) && cZ n)) : Calls ak 176 #[.int .i64 n, .int .i64 most] w fun e w' => e = .returned (.bool b) /\ Below w.heap.size w w' := by
 have HB := I hb
 clear hb
 rcases cu n 1 with h | h
 ·have h1 : ¬ n ≥ 1 := by omega
  go_enter Tryz.func176, Tryz.ntmps176
  go_wp2_with fail
  go_ret
  exact ⟨aC (by rw [HB.out, pow_out (.inl h)]; simp), aq _ _⟩
 ·have h1 : n ≥ 1 := h
  rcases cu most n with k | k
  ·have k1 : ¬ n <= most := by omega
   go_enter Tryz.func176, Tryz.ntmps176
   go_wp2_with fail
   go_ret
   exact ⟨aC (by rw [HB.out]; simp; omega), aq _ _⟩
  ·have KK := I (show (bits BinOp.and IntKind.i64 n (n - 1) == 0) = cZ n by have e := pow_and h (show n <= 256 by omega); rw [show wrap64 (n - 1) = n - 1 by unfold wrap64; omega] at e; exact e)
   have K2 := I k
   go_enter Tryz.func176, Tryz.ntmps176
   go_wp2_with fail
   go_ret
   exact ⟨aC (by rw [HB.out, KK.out]; simp [K2.out]), aq _ _⟩
set_option maxRecDepth 100000 in
theorem lV (wd x : Int) (w : World) (h1 : 0 <= wd) (hx : 0 <= x) (b : Bool) (hb : gH wd x = b) : Calls ak 187 #[.int .i64 wd, .int .u64 x] w fun e w' => e = .returned (.bool b) /\ Below w.heap.size w w' := by
 have HB := I hb
 have HX := I hx
 clear hb hx
 by_cases h2 : wd ≥ 64
 ·go_enter Tryz.func187, Tryz.ntmps187
  go_wp2_with fail
  go_ret
  exact ⟨aC (by rw [<- HB.out]; unfold gH; rw [decide_eq_true h2]; rfl), aq _ _⟩
 ·have H2 := I h2
  go_enter Tryz.func187, Tryz.ntmps187
  go_wp2_with fail
  go_ret
  refine ⟨aC ?_, aq _ _⟩
  rw [<- HB.out]
  unfold gH
  rw [decide_eq_false (show ¬ 64 <= wd by have := H2.out; omega), Bool.false_or]
  have hp : (0 : Int) < 2 ^ wd.toNat := Int.pow_pos (by decide)
  have e : (x / 2 ^ wd.toNat = 0) ↔ x < 2 ^ wd.toNat := by
   constructor
   ·intro h
    have := Int.lt_ediv_add_one_mul_self x hp
    rw [h] at this
    omega
   ·intro h
    exact Int.ediv_eq_zero_of_lt HX.out h
  by_cases h : x < 2 ^ wd.toNat
  ·rw [decide_eq_true h]; exact beq_iff_eq.2 (e.2 h)
  ·rw [decide_eq_false h]; exact beq_eq_false_iff_ne.2 (fun k => h (e.1 k))
end
section
attribute [local go_sem] G.cell
def RT (t : Th) : Prop := pO t /\ match t with
 | .stmt s _ _ => 1 <= s.f0 /\ s.f0 <= 5
 | _ => True
theorem ret_use {a b : ByteArray} {c d : Bool} (h1 : a = b) (h2 : c = d) : fw (.tuple #[.string a, .bool c]) = .returned (.tuple #[.string b, .bool d]) := by rw [h1, h2]
set_option maxRecDepth 100000 in
theorem use_calls {Wb : World} (W : World) (n : Nat) (dp sp ep : Value) (dI : Int) (lp : Value) (t : Th) (hR : RT t) (hB : Below Wb.heap.size Wb W) (ht : ThP Wb W dp sp ep dI lp t) (r1 : ByteArray) (r2 : Bool) (hr : (r1, r2) = ((iO t).getD ⟨#[]⟩, (iO t).isSome)) :
 Calls ak 194 #[.agg #[.int .i64 n, dp, sp, ep, .int .i64 dI, lp]] W fun e w' => e = .returned (.tuple #[.string r1, .bool r2]) /\ Below W.heap.size W w' := by
 have hb : ∀ o : Obj, Below W.heap.size W (W.alloc o) := fun o => (aq _ _).alloc (ar _) o
 have h1 : r1 = (iO t).getD ⟨#[]⟩ := congrArg Prod.fst hr
 have h2 : r2 = (iO t).isSome := congrArg Prod.snd hr
 have HR := I (ae h1 h2)
 clear hr h1 h2
 cases t with
 | decl i =>
   obtain ⟨⟨a, rfl⟩, rfl, rfl, rfl, rfl⟩ := ht
   go_enter Tryz.func194, Tryz.ntmps194
   go_wp2_with fail
   go_ret2
   exact ⟨ret_use (by rw [HR.out.1]; rfl) (by rw [HR.out.2]; rfl), hb _⟩
 | stmt s d lo =>
   obtain ⟨rfl, ⟨a, A5, c5, A9, c9, A12, c12, A13, c13, rfl, hr, _⟩, rfl, rfl, hsc⟩ := ht
   have q0 := aE (hB.trans ((hb (.cells #[.int .i64 n, .pointer ag, .pointer (ac ⟨a.block, a.off, ag⟩), .pointer ag, .int .i64 d, lp] 110)).mono hB.size)) (hr 0 _ rfl)
   have q1 := aE (hB.trans ((hb (.cells #[.int .i64 n, .pointer ag, .pointer (ac ⟨a.block, a.off, ag⟩), .pointer ag, .int .i64 d, lp] 110)).mono hB.size)) (hr 1 _ rfl)
   rw [fq] at q0
   have hk : s.f0 = 1 \/ s.f0 = 2 \/ s.f0 = 5 \/ s.f0 = 3 \/ s.f0 = 4 := by have := hR.2.1; have := hR.2.2; omega
   clear hr hsc hR hB
   rcases hk with k | k | k | k | k
   all_goals
    rw [k] at q0
    have K := I k
    clear k
    go_enter Tryz.func194, Tryz.ntmps194
    go_wp2_with fail
    go_ret2
    exact ⟨ret_use (by rw [HR.out.1]; simp [iO, K.out]) (by rw [HR.out.2]; simp [iO, K.out]), hb _⟩
 | expr x lo =>
   obtain ⟨rfl, rfl, ⟨a, A, c, rfl, hr, _⟩, rfl, hsc⟩ := ht
   have q0 := aE (hB.trans ((hb (.cells #[.int .i64 n, .pointer ag, .pointer ag, .pointer (ac ⟨a.block, a.off, ag⟩), .int .i64 0, lp] 110)).mono hB.size)) (hr 0 _ rfl)
   have q2 := aE (hB.trans ((hb (.cells #[.int .i64 n, .pointer ag, .pointer ag, .pointer (ac ⟨a.block, a.off, ag⟩), .int .i64 0, lp] 110)).mono hB.size)) (hr 2 _ rfl)
   rw [fq] at q0
   clear hr hsc hR hB
   have hk : x.f0 = 2 \/ x.f0 = 3 \/ (¬ x.f0 = 2 /\ ¬ x.f0 = 3) := by omega
   rcases hk with k | k | ⟨k2, k3⟩
   rotate_right
   ·have b2 := bf k2
    have b3 := bf k3
    have K := I (ae k2 k3)
    clear k2 k3
    go_enter Tryz.func194, Tryz.ntmps194
    go_wp2_with fail
    go_ret2
    exact ⟨ret_use (by rw [HR.out.1]; simp [iO, K.out.1, K.out.2]) (by rw [HR.out.2]; simp [iO, K.out.1, K.out.2]), hb _⟩
   all_goals
    rw [k] at q0
    have K := I k
    clear k
    go_enter Tryz.func194, Tryz.ntmps194
    go_wp2_with fail
    go_ret2
    exact ⟨ret_use (by rw [HR.out.1]; simp [iO, K.out]) (by rw [HR.out.2]; simp [iO, K.out]), hb _⟩
end
section
attribute [local go_sem] G.cell
theorem ThP.scope {Wb W : World} {dp sp ep : Value} {dI : Int} {lp : Value} {t : Th} (h : ThP Wb W dp sp ep dI lp t) : dW W lp (gF t).reverse := by
 cases t with
 | decl i => exact h.2.2.2.2
 | stmt s d lo => exact h.2.2.2.2
 | expr e lo => exact h.2.2.2.2
set_option maxRecDepth 100000 in
theorem wkind_calls {Wb : World} (nm : ByteArray) (wd ln : Int) (ds : List S70) (bd : List S119) (A3 : Option Addr) (c3 : Nat) (A4 : Option Addr) (c4 : Nat) (hp : ProgAt Wb ds bd A3 c3 A4 c4) (hd0 : ∀ d ∈ ds, 0 <= d.f2) (W : World) (n : Nat) (dp sp ep : Value) (dI : Int) (lp : Value) (t : Th) (hR : RT t) (hB : Below Wb.heap.size Wb W) (ht : ThP Wb W dp sp ep dI lp t)
 (s : ByteArray) (hu : iO t = ac s) (hk : iC (gF t) s = af \/ ∃ i, bZ ds s = ac i) (b : Bool) (hb : b = oH ds t s) :
 Calls ak 197 #[(.agg #[.string nm, .int .i64 wd, .int .i64 ln, .slice A3 ds.length c3, .slice A4 bd.length c4]), .agg #[.int .i64 n, dp, sp, ep, .int .i64 dI, lp], .string s] W fun e w' => e = .returned (.bool b) /\ Below W.heap.size W w' := by
 have gout := @gB W
 have HB := I hB
 have HP := I hp
 have HR := I hb
 have HSC := I ht.scope
 have HD := I hd0
 have hlm := hp.hd.2.1
 clear hb hp hd0
 go_enter Tryz.func197, Tryz.ntmps197
 go_upto_region 1 with (fail)
 refine aH ?_
 intro gg
 have goutW : ∀ (g : G (gw0 gg)), Below W.heap.size W g.W := fun g => gout g
 have goutB : ∀ (g : G (gw0 gg)), Below Wb.heap.size Wb g.W := fun g => HB.out.trans ((goutW g).mono HB.out.size)
 go_wp2_with fail
 rcases aJ (iC (gF t) s) with hh | hh
 ·refine (aD (g := gg) (has_v (HSC.out.below (gout gg)) hh)).mono ?_
  rintro _ _ ⟨rfl, gg, rfl⟩
  have HK := I (show b = nW t by rw [HR.out]; unfold oH; rw [if_pos hh])
  clear hh hk
  cases t with
  | decl i => simp [iO] at hu
  | stmt x d lo =>
    obtain ⟨rfl, ⟨a, A5, c5, A9, c9, A12, c12, A13, c13, rfl, hr, _⟩, rfl, rfl, hsc⟩ := ht
    clear hr hsc hR hu hB
    go_wp2_with fail
    go_ret
    exact ⟨aC (by rw [HK.out]; rfl), goutW _⟩
  | expr x lo =>
    obtain ⟨rfl, rfl, ⟨a, A, c, rfl, hr, _⟩, rfl, hsc⟩ := ht
    have q0 : ∀ g : G (gw0 gg), g.W.cell? ⟨a.block, a.off, ag⟩ = ac (.int .i64 x.f0) := fun g => aE (goutB g) (by have := hr 0 _ rfl; rwa [fq] at this)
    clear hr hsc hR hu hB
    by_cases k : x.f0 = 2
    ·have K := I k
     rw [k] at q0
     clear k
     have q := q0 gg
     go_wp2_with fail
     go_ret
     exact ⟨aC (by rw [HK.out]; simp [nW, K.out]), goutW _⟩
    ·have b2 := bf k
     have K := I k
     clear k
     have q := q0 gg
     go_wp2_with fail
     go_ret
     exact ⟨aC (by rw [HK.out]; simp [nW, K.out]), goutW _⟩
 ·refine (aD (g := gg) (has_v (HSC.out.below (gout gg)) hh)).mono ?_
  rintro _ _ ⟨rfl, gg, rfl⟩
  obtain ⟨i, hi⟩ : ∃ i, bZ ds s = ac i := hk.elim (fun h => by rw [hh] at h; cases h) id
  have hlt := findB_lt hi
  have HK := I (show b = mM (aG ds (i : Int)) t by rw [HR.out]; unfold oH; rw [if_neg (by simp [hh]), hi]; rfl)
  clear hh hk
  go_wp2_with fail
  refine (find_calls nm wd ln ds A3 c3 A4 bd.length c4 s gg.W (Kd.aF HP.out.hd (goutB gg)) HP.out.hld).mono ?_
  rintro _ w9 ⟨q, rfl, hF, hb9⟩
  obtain ⟨ad, hA, rfl⟩ := hF.2 i hi
  obtain ⟨gg, rfl⟩ : ∃ g : G (gw0 gg), w9 = g.W := ⟨mkG (gg.below.trans (hb9.mono gg.below.size)), rfl⟩
  obtain ⟨ad2, A9d, c9d, e1, p0, p1, p2, p3, _⟩ := dN HP.out.hd (i : Int) (bc _) (by omega)
  rw [hA] at e1
  cases e1
  rw [av] at p0 p2
  have he := addr_eta p0
  have z0 := aE (goutB gg) p0
  have z2 := aE (goutB gg) p2
  rw [he] at z0
  have D0 := I (HD.out _ (dO hlt))
  clear hb9 hF p0 p1 p2 p3 hA hi
  generalize (ad.add (i * 4)).block = bb at *
  generalize (ad.add (i * 4)).off = oo at *
  cases t with
  | decl j => simp [iO] at hu
  | stmt x d lo =>
    obtain ⟨rfl, ⟨a, A5, c5, A9, c9, A12, c12, A13, c13, rfl, hr, _⟩, rfl, rfl, hsc⟩ := ht
    have hx : x.f0 = 1 \/ x.f0 = 2 \/ x.f0 = 5 := by
     simp only [iO] at hu
     split at hu
     ·assumption
     ·cases hu
    have q0 : gg.W.cell? ⟨a.block, a.off, ag⟩ = ac (.int .i64 x.f0) := aE (goutB gg) (by have := hr 0 _ rfl; rwa [fq] at this)
    clear hr hsc hR hu hB
    rcases hx with k | k | k
    ·rw [k] at q0
     have K := I k
     clear k
     go_wp2_with fail
     go_ret
     exact ⟨aC (by rw [HK.out]; simp [mM, K.out] <;> rfl), goutW _⟩
    ·rw [k] at q0
     have K := I k
     clear k
     by_cases h2 : (aG ds (i : Int)).f2 = 0
     ·have g2 : ¬ (aG ds (i : Int)).f2 > 0 := by omega
      have H2 := I h2
      clear h2
      go_wp2_with fail
      go_ret
      exact ⟨aC (by rw [HK.out]; simp [mM, K.out, H2.out]), goutW _⟩
     ·have g2 : (aG ds (i : Int)).f2 > 0 := by have := D0.out; omega
      have H2 := I h2
      clear h2
      go_wp2_with fail
      go_ret
      exact ⟨aC (by rw [HK.out]; simp [mM, K.out, H2.out] <;> rfl), goutW _⟩
    ·rw [k] at q0
     have K := I k
     clear k
     go_wp2_with fail
     go_ret
     exact ⟨aC (by rw [HK.out]; simp [mM, K.out] <;> rfl), goutW _⟩
  | expr x lo =>
    obtain ⟨rfl, rfl, ⟨a, A, c, rfl, hr, _⟩, rfl, hsc⟩ := ht
    have hx : x.f0 = 2 \/ x.f0 = 3 := by
     simp only [iO] at hu
     split at hu
     ·assumption
     ·cases hu
    have q0 : gg.W.cell? ⟨a.block, a.off, ag⟩ = ac (.int .i64 x.f0) := aE (goutB gg) (by have := hr 0 _ rfl; rwa [fq] at this)
    clear hr hsc hR hu hB
    rcases hx with k | k
    ·rw [k] at q0
     have K := I k
     clear k
     go_wp2_with fail
     go_ret
     exact ⟨aC (by rw [HK.out]; simp [mM, K.out] <;> rfl), goutW _⟩
    ·rw [k] at q0
     have K := I k
     clear k
     by_cases h2 : (aG ds (i : Int)).f2 = 0
     ·have g2 : ¬ (aG ds (i : Int)).f2 > 0 := by omega
      have H2 := I h2
      clear h2
      go_wp2_with fail
      go_ret
      exact ⟨aC (by rw [HK.out]; simp [mM, K.out, H2.out]), goutW _⟩
     ·have g2 : (aG ds (i : Int)).f2 > 0 := by have := D0.out; omega
      have H2 := I h2
      clear h2
      go_wp2_with fail
      go_ret
      exact ⟨aC (by rw [HK.out]; simp [mM, K.out, H2.out]), goutW _⟩
end
section
variable (nm : ByteArray) (wd ln : Int) (ds : List S70) (bd : List S119) (A3 : Option Addr) (c3 : Nat) (A4 : Option Addr) (c4 : Nat)
section
attribute [local go_sem] G.cell
def qOf (A3 : Option Addr) (ds : List S70) (s : ByteArray) : Option Addr := match bZ ds s, A3 with
 | some i, ac ad => ac (ad.add (i * 4))
 | _, _ => ag
theorem find_q (nm : ByteArray) (wd ln : Int) (ds : List S70) (A3 : Option Addr) (c3 : Nat) (A4 : Option Addr) (n4 c4 : Nat) (s : ByteArray) (w : World) (hd : k70.C w A3 ds.length ds) (hld : ds.length <= c3) :
 Calls ak 181 #[.agg #[.string nm, .int .i64 wd, .int .i64 ln, .slice A3 ds.length c3, .slice A4 n4 c4], .string s] w fun e w' => e = .returned (.pointer (qOf A3 ds s)) /\ Below w.heap.size w w' := by
 refine (find_calls nm wd ln ds A3 c3 A4 n4 c4 s w hd hld).mono ?_
 rintro _ w' ⟨q, rfl, ⟨h1, h2⟩, hb⟩
 refine ⟨?_, hb⟩
 unfold qOf
 cases hf : bZ ds s with
 | none =>
   rw [hf] at h1
   cases q with
   | none => rfl
   | some a => simp at h1
 | some i =>
   obtain ⟨ad, rfl, rfl⟩ := h2 i hf
   rfl
theorem qOf_none {A3 : Option Addr} {ds : List S70} {s : ByteArray} (h : (bZ ds s).isNone = af) : qOf A3 ds s = ag := by
 unfold qOf
 cases hf : bZ ds s with
 | none => rfl
 | some i => rw [hf] at h; cases h
theorem qOf_some {w : World} {A3 : Option Addr} {ds : List S70} {s : ByteArray} (hd : k70.C w A3 ds.length ds) (h : (bZ ds s).isNone = J) : ∃ a, qOf A3 ds s = ac a := by
 unfold qOf
 cases hf : bZ ds s with
 | none => rw [hf] at h; cases h
 | some i =>
   have hlt := findB_lt hf
   obtain ⟨ad, _, _, e, _⟩ := dN hd (0 : Int) (Int.le_refl _) (by omega)
   subst e
   exact ⟨_, rfl⟩
def RW (t : Th) : Prop := RT t /\ match t with
 | .expr e _ => aK e <= 8388608
 | _ => True
set_option maxRecDepth 100000 in
theorem cl10_calls {Wb : World} (nm : ByteArray) (wd ln : Int) (ds : List S70) (bd : List S119) (A3 : Option Addr) (c3 : Nat) (A4 : Option Addr) (c4 : Nat) (W : World) (n : Nat) (dp sp ep : Value) (dI : Int) (lp : Value) (t : Th) (hR : RW t) (hB : Below Wb.heap.size Wb W) (ht : ThP Wb W dp sp ep dI lp t) (b : Bool) (hb : b = qZ t) :
 Calls ak 191 #[.agg #[.string nm, .int .i64 wd, .int .i64 ln, .slice A3 ds.length c3, .slice A4 bd.length c4], .agg #[.int .i64 n, dp, sp, ep, .int .i64 dI, lp]] W fun e w' => e = .returned (.bool b) /\ Below W.heap.size W w' := by
 have gout := @gB W
 have HB := I hB
 have HR := I hb
 clear hb hB
 go_enter Tryz.func191, Tryz.ntmps191
 go_upto_region 1 with (fail)
 refine aH ?_
 intro gg
 have goutW : ∀ (g : G (gw0 gg)), Below W.heap.size W g.W := fun g => gout g
 have goutB : ∀ (g : G (gw0 gg)), Below Wb.heap.size Wb g.W := fun g => HB.out.trans ((goutW g).mono HB.out.size)
 cases t with
 | decl i =>
   obtain ⟨⟨a, rfl⟩, rfl, rfl, rfl, rfl⟩ := ht
   clear hR
   go_wp2_with fail
   go_ret
   exact ⟨aC (by rw [HR.out]; rfl), goutW _⟩
 | stmt s d lo =>
   obtain ⟨rfl, ⟨a, A5, c5, A9, c9, A12, c12, A13, c13, rfl, hr, _⟩, rfl, rfl, hsc⟩ := ht
   clear hr hsc hR
   by_cases h : 64 < d
   ·have h' : (64 : Int) < (d : Int) := by omega
    have H := I h
    clear h
    go_wp2_with fail
    go_ret
    exact ⟨aC (by rw [HR.out]; simp [qZ, H.out]), goutW _⟩
   ·have h' : ¬ (64 : Int) < (d : Int) := by omega
    have H := I h
    clear h
    go_wp2_with fail
    go_ret
    exact ⟨aC (by rw [HR.out]; have := H.out; simp [qZ]; omega), goutW _⟩
 | expr x lo =>
   obtain ⟨rfl, rfl, ⟨a, A, c, rfl, hr, hl, hC⟩, rfl, hsc⟩ := ht
   have HC := I (ae hl hC)
   have q0 : gg.W.cell? ⟨a.block, a.off, ag⟩ = ac (.int .i64 x.f0) := aE (goutB gg) (by have := hr 0 _ rfl; rwa [fq] at this)
   have q1 : gg.W.cell? ⟨a.block, a.off + 1, ag⟩ = ac (.int .u64 x.f1) := aE (goutB gg) (hr 1 _ rfl)
   have q2 : gg.W.cell? ⟨a.block, a.off + 2, ag⟩ = ac (.string x.f2) := aE (goutB gg) (hr 2 _ rfl)
   have q3 : gg.W.cell? ⟨a.block, a.off + 3, ag⟩ = ac (.slice A x.f3.length c) := aE (goutB gg) (hr 3 _ rfl)
   have HW := I (show fY x <= 8388608 from bh (lZ x) hR.2)
   clear hr hsc hl hC hR
   go_wp2_with fail
   refine (aD (g := gg) (depth_calls _ x (ar _) (by have := HW.out; omega) A c gg.W (Kd.aF HC.out.2 (goutB gg)) HC.out.1)).mono ?_
   rintro _ _ ⟨rfl, gg, rfl⟩
   by_cases h : 64 < fY x
   ·have h' : (64 : Int) < (fY x : Int) := by omega
    have H := I h
    clear h
    go_wp2_with fail
    go_ret
    exact ⟨aC (by rw [HR.out]; simp [qZ, H.out]), goutW _⟩
   ·have h' : ¬ (64 : Int) < (fY x : Int) := by omega
    have H := I h
    clear h
    go_wp2_with fail
    go_ret
    exact ⟨aC (by rw [HR.out]; have := H.out; simp [qZ]; omega), goutW _⟩
set_option maxRecDepth 100000 in
theorem cl11_calls {Wb : World} (nm : ByteArray) (wd ln : Int) (ds : List S70) (bd : List S119) (A3 : Option Addr) (c3 : Nat) (A4 : Option Addr) (c4 : Nat) (hp : ProgAt Wb ds bd A3 c3 A4 c4) (W : World) (n : Nat) (dp sp ep : Value) (dI : Int) (lp : Value) (t : Th) (hR : RT t) (hB : Below Wb.heap.size Wb W) (ht : ThP Wb W dp sp ep dI lp t) (b : Bool) (hb : b = jF ds t) :
 Calls ak 193 #[.agg #[.string nm, .int .i64 wd, .int .i64 ln, .slice A3 ds.length c3, .slice A4 bd.length c4], .agg #[.int .i64 n, dp, sp, ep, .int .i64 dI, lp]] W fun e w' => e = .returned (.bool b) /\ Below W.heap.size W w' := by
 have gout := @gB W
 have HB := I hB
 have HP := I hp
 have HR := I hb
 have HT := I ht
 have HRT := I hR
 clear hb hB hp ht hR
 go_enter Tryz.func193, Tryz.ntmps193
 go_upto_region 1 with (fail)
 refine aH ?_
 intro gg
 have goutW : ∀ (g : G (gw0 gg)), Below W.heap.size W g.W := fun g => gout g
 have goutB : ∀ (g : G (gw0 gg)), Below Wb.heap.size Wb g.W := fun g => HB.out.trans ((goutW g).mono HB.out.size)
 obtain ⟨r1, h1⟩ : ∃ r, r = (iO t).getD ⟨#[]⟩ := ⟨_, rfl⟩
 obtain ⟨r2, h2⟩ : ∃ r, r = (iO t).isSome := ⟨_, rfl⟩
 have HU := I (show (r1, r2) = ((iO t).getD ⟨#[]⟩, (iO t).isSome) by rw [h1, h2])
 have HV := I (ae h1 h2)
 clear h1 h2
 go_wp2_with fail
 refine (aD (g := gg) (use_calls gg.W n dp sp ep dI lp t HRT.out (goutB gg) (HT.out.below (goutW gg)) r1 r2 HU.out)).mono ?_
 rintro _ _ ⟨rfl, gg, rfl⟩
 cases hu : iO t with
 | none =>
   have e2 : r2 = J := by rw [HV.out.2, hu]; rfl
   have HE := I (show b = J by rw [HR.out]; unfold jF; rw [hu])
   clear hu
   subst e2
   go_wp2_with fail
   go_ret
   exact ⟨aC HE.out.symm, goutW _⟩
 | some s =>
   have e2 : r2 = af := by rw [HV.out.2, hu]; rfl
   have e1 : r1 = s := by rw [HV.out.1, hu]; rfl
   have HE := I (show b = (!iC (gF t) s && (bZ ds s).isNone) by rw [HR.out]; unfold jF; rw [hu])
   clear hu
   subst e2 e1
   go_wp2_with fail
   rcases aJ (iC (gF t) r1) with hh | hh
   ·refine (aD (g := gg) (has_v (HT.out.scope.below (goutW gg)) hh)).mono ?_
    rintro _ _ ⟨rfl, gg, rfl⟩
    have HH := I hh
    clear hh
    go_wp2_with fail
    go_ret
    exact ⟨aC (by rw [HE.out, HH.out]; rfl), goutW _⟩
   ·refine (aD (g := gg) (has_v (HT.out.scope.below (goutW gg)) hh)).mono ?_
    rintro _ _ ⟨rfl, gg, rfl⟩
    have HH := I hh
    clear hh
    go_wp2_with fail
    refine (aD (g := gg) (find_q nm wd ln ds A3 c3 A4 bd.length c4 r1 gg.W (Kd.aF HP.out.hd (goutB gg)) HP.out.hld)).mono ?_
    rintro _ _ ⟨rfl, gg, rfl⟩
    rcases aJ ((bZ ds r1).isNone) with hn | hn
    ·rw [qOf_none hn]
     have HN := I hn
     clear hn
     go_wp2_with fail
     go_ret
     exact ⟨aC (by rw [HE.out, HH.out, HN.out]; rfl), goutW _⟩
    ·obtain ⟨qa, hq⟩ := qOf_some HP.out.hd hn
     rw [hq]
     have HN := I hn
     clear hn hq
     go_wp2_with fail
     go_ret
     exact ⟨aC (by rw [HE.out, HH.out, HN.out]; rfl), goutW _⟩
end
end
section
attribute [local go_sem] G.cell
def nE (K : FuncId) (W0 : World) (nm : ByteArray) (wd ln : Int) (ds : List S70) (bd : List S119) (A3 : Option Addr) (c3 : Nat) (A4 : Option Addr) (c4 : Nat) (R : Th -> Prop) (f : Th -> Bool) : Prop :=
 ∀ (Wb W : World) (n : Nat) (dp sp ep : Value) (dI : Int) (lp : Value) (t : Th), R t -> Below W0.heap.size W0 Wb -> Below Wb.heap.size Wb W -> ThP Wb W dp sp ep dI lp t ->
 Calls ak K #[.agg #[.string nm, .int .i64 wd, .int .i64 ln, .slice A3 ds.length c3, .slice A4 bd.length c4], .agg #[.int .i64 n, dp, sp, ep, .int .i64 dI, lp]] W fun e w' => e = .returned (.bool (f t)) /\ Below W.heap.size W w'
set_option maxRecDepth 100000 in
theorem wrong61_ok {W0 : World} {b1 b2 : Nat} {nm : ByteArray} {wd ln : Int} {ds : List S70} {bd : List S119} {A3 : Option Addr} {c3 : Nat} {A4 : Option Addr} {c4 : Nat} {R : Th -> Prop} {f : Th -> Bool} (hc : nE 191 W0 nm wd ln ds bd A3 c3 A4 c4 R f)
 (h1 : W0.heap[b1]? = ac (.cells #[.func (.func 191) #[] #[]] 240 (0, 0))) (h2 : W0.heap[b2]? = ac (.cells #[.string nm, .int .i64 wd, .int .i64 ln, .slice A3 ds.length c3, .slice A4 bd.length c4] 25 (0, 0))) : j4 W0 (.pointer (ac ⟨b1, 0, ag⟩)) (.pointer (ac ⟨b2, 0, ag⟩)) R f := by
 intro Wb W n dp sp ep dI lp t hR h0 hB ht
 have gout := @gA W
 have hBW := h0.trans (hB.mono h0.size)
 have k1 := (hBW.block b1 (aW h1)).trans h1
 have k2 := (hBW.block b2 (aW h2)).trans h2
 have l1 := aW k1
 have l2 := aW k2
 have y0 : W.cell? ⟨b1, 0, ag⟩ = ac (.func (.func 191) #[] #[]) := (aA k1 0).trans rfl
 have z0 : W.cell? ⟨b2, 0, ag⟩ = ac (.string nm) := (aA k2 0).trans rfl
 have z1 : W.cell? ⟨b2, 1, ag⟩ = ac (.int .i64 wd) := (aA k2 1).trans rfl
 have z2 : W.cell? ⟨b2, 2, ag⟩ = ac (.int .i64 ln) := (aA k2 2).trans rfl
 have z3 : W.cell? ⟨b2, 3, ag⟩ = ac (.slice A3 ds.length c3) := (aA k2 3).trans rfl
 have z4 : W.cell? ⟨b2, 4, ag⟩ = ac (.slice A4 bd.length c4) := (aA k2 4).trans rfl
 have HX := I (ae hR (ae h0 (ae hB ht)))
 have HC := I hc
 clear hR h0 hB ht hc k1 k2 h1 h2 hBW
 go_enter Tryz.func251, Tryz.ntmps251
 go_upto_region 1 with (fail)
 refine aH ?_
 intro gg
 go_wp2_with fail
 refine (aD (g := gg) (HC.out Wb gg.W n dp sp ep dI lp t HX.out.1 HX.out.2.1 (HX.out.2.2.1.trans ((gout gg).mono HX.out.2.2.1.size)) (HX.out.2.2.2.below (gout gg)))).mono ?_
 rintro _ _ ⟨rfl, gg, rfl⟩
 go_wp2_with fail
 go_ret
 exact ⟨rfl, gout _⟩
set_option maxRecDepth 100000 in
theorem wrong63_ok {W0 : World} {b1 b2 : Nat} {nm : ByteArray} {wd ln : Int} {ds : List S70} {bd : List S119} {A3 : Option Addr} {c3 : Nat} {A4 : Option Addr} {c4 : Nat} {R : Th -> Prop} {f : Th -> Bool} (hc : nE 193 W0 nm wd ln ds bd A3 c3 A4 c4 R f)
 (h1 : W0.heap[b1]? = ac (.cells #[.func (.func 193) #[] #[]] 240 (0, 0))) (h2 : W0.heap[b2]? = ac (.cells #[.string nm, .int .i64 wd, .int .i64 ln, .slice A3 ds.length c3, .slice A4 bd.length c4] 25 (0, 0))) : j4 W0 (.pointer (ac ⟨b1, 0, ag⟩)) (.pointer (ac ⟨b2, 0, ag⟩)) R f := by
 intro Wb W n dp sp ep dI lp t hR h0 hB ht
 have gout := @gA W
 have hBW := h0.trans (hB.mono h0.size)
 have k1 := (hBW.block b1 (aW h1)).trans h1
 have k2 := (hBW.block b2 (aW h2)).trans h2
 have l1 := aW k1
 have l2 := aW k2
 have y0 : W.cell? ⟨b1, 0, ag⟩ = ac (.func (.func 193) #[] #[]) := (aA k1 0).trans rfl
 have z0 : W.cell? ⟨b2, 0, ag⟩ = ac (.string nm) := (aA k2 0).trans rfl
 have z1 : W.cell? ⟨b2, 1, ag⟩ = ac (.int .i64 wd) := (aA k2 1).trans rfl
 have z2 : W.cell? ⟨b2, 2, ag⟩ = ac (.int .i64 ln) := (aA k2 2).trans rfl
 have z3 : W.cell? ⟨b2, 3, ag⟩ = ac (.slice A3 ds.length c3) := (aA k2 3).trans rfl
 have z4 : W.cell? ⟨b2, 4, ag⟩ = ac (.slice A4 bd.length c4) := (aA k2 4).trans rfl
 have HX := I (ae hR (ae h0 (ae hB ht)))
 have HC := I hc
 clear hR h0 hB ht hc k1 k2 h1 h2 hBW
 go_enter Tryz.func251, Tryz.ntmps251
 go_upto_region 1 with (fail)
 refine aH ?_
 intro gg
 go_wp2_with fail
 refine (aD (g := gg) (HC.out Wb gg.W n dp sp ep dI lp t HX.out.1 HX.out.2.1 (HX.out.2.2.1.trans ((gout gg).mono HX.out.2.2.1.size)) (HX.out.2.2.2.below (gout gg)))).mono ?_
 rintro _ _ ⟨rfl, gg, rfl⟩
 go_wp2_with fail
 go_ret
 exact ⟨rfl, gout _⟩
set_option maxRecDepth 100000 in
theorem wrong66_ok {W0 : World} {b1 b2 : Nat} {nm : ByteArray} {wd ln : Int} {ds : List S70} {bd : List S119} {A3 : Option Addr} {c3 : Nat} {A4 : Option Addr} {c4 : Nat} {R : Th -> Prop} {f : Th -> Bool} (hc : nE 196 W0 nm wd ln ds bd A3 c3 A4 c4 R f)
 (h1 : W0.heap[b1]? = ac (.cells #[.func (.func 196) #[] #[]] 240 (0, 0))) (h2 : W0.heap[b2]? = ac (.cells #[.string nm, .int .i64 wd, .int .i64 ln, .slice A3 ds.length c3, .slice A4 bd.length c4] 25 (0, 0))) : j4 W0 (.pointer (ac ⟨b1, 0, ag⟩)) (.pointer (ac ⟨b2, 0, ag⟩)) R f := by
 intro Wb W n dp sp ep dI lp t hR h0 hB ht
 have gout := @gA W
 have hBW := h0.trans (hB.mono h0.size)
 have k1 := (hBW.block b1 (aW h1)).trans h1
 have k2 := (hBW.block b2 (aW h2)).trans h2
 have l1 := aW k1
 have l2 := aW k2
 have y0 : W.cell? ⟨b1, 0, ag⟩ = ac (.func (.func 196) #[] #[]) := (aA k1 0).trans rfl
 have z0 : W.cell? ⟨b2, 0, ag⟩ = ac (.string nm) := (aA k2 0).trans rfl
 have z1 : W.cell? ⟨b2, 1, ag⟩ = ac (.int .i64 wd) := (aA k2 1).trans rfl
 have z2 : W.cell? ⟨b2, 2, ag⟩ = ac (.int .i64 ln) := (aA k2 2).trans rfl
 have z3 : W.cell? ⟨b2, 3, ag⟩ = ac (.slice A3 ds.length c3) := (aA k2 3).trans rfl
 have z4 : W.cell? ⟨b2, 4, ag⟩ = ac (.slice A4 bd.length c4) := (aA k2 4).trans rfl
 have HX := I (ae hR (ae h0 (ae hB ht)))
 have HC := I hc
 clear hR h0 hB ht hc k1 k2 h1 h2 hBW
 go_enter Tryz.func251, Tryz.ntmps251
 go_upto_region 1 with (fail)
 refine aH ?_
 intro gg
 go_wp2_with fail
 refine (aD (g := gg) (HC.out Wb gg.W n dp sp ep dI lp t HX.out.1 HX.out.2.1 (HX.out.2.2.1.trans ((gout gg).mono HX.out.2.2.1.size)) (HX.out.2.2.2.below (gout gg)))).mono ?_
 rintro _ _ ⟨rfl, gg, rfl⟩
 go_wp2_with fail
 go_ret
 exact ⟨rfl, gout _⟩
set_option maxRecDepth 100000 in
theorem wrong68_ok {W0 : World} {b1 b2 : Nat} {nm : ByteArray} {wd ln : Int} {ds : List S70} {bd : List S119} {A3 : Option Addr} {c3 : Nat} {A4 : Option Addr} {c4 : Nat} {R : Th -> Prop} {f : Th -> Bool} (hc : nE 198 W0 nm wd ln ds bd A3 c3 A4 c4 R f)
 (h1 : W0.heap[b1]? = ac (.cells #[.func (.func 198) #[] #[]] 240 (0, 0))) (h2 : W0.heap[b2]? = ac (.cells #[.string nm, .int .i64 wd, .int .i64 ln, .slice A3 ds.length c3, .slice A4 bd.length c4] 25 (0, 0))) : j4 W0 (.pointer (ac ⟨b1, 0, ag⟩)) (.pointer (ac ⟨b2, 0, ag⟩)) R f := by
 intro Wb W n dp sp ep dI lp t hR h0 hB ht
 have gout := @gA W
 have hBW := h0.trans (hB.mono h0.size)
 have k1 := (hBW.block b1 (aW h1)).trans h1
 have k2 := (hBW.block b2 (aW h2)).trans h2
 have l1 := aW k1
 have l2 := aW k2
 have y0 : W.cell? ⟨b1, 0, ag⟩ = ac (.func (.func 198) #[] #[]) := (aA k1 0).trans rfl
 have z0 : W.cell? ⟨b2, 0, ag⟩ = ac (.string nm) := (aA k2 0).trans rfl
 have z1 : W.cell? ⟨b2, 1, ag⟩ = ac (.int .i64 wd) := (aA k2 1).trans rfl
 have z2 : W.cell? ⟨b2, 2, ag⟩ = ac (.int .i64 ln) := (aA k2 2).trans rfl
 have z3 : W.cell? ⟨b2, 3, ag⟩ = ac (.slice A3 ds.length c3) := (aA k2 3).trans rfl
 have z4 : W.cell? ⟨b2, 4, ag⟩ = ac (.slice A4 bd.length c4) := (aA k2 4).trans rfl
 have HX := I (ae hR (ae h0 (ae hB ht)))
 have HC := I hc
 clear hR h0 hB ht hc k1 k2 h1 h2 hBW
 go_enter Tryz.func251, Tryz.ntmps251
 go_upto_region 1 with (fail)
 refine aH ?_
 intro gg
 go_wp2_with fail
 refine (aD (g := gg) (HC.out Wb gg.W n dp sp ep dI lp t HX.out.1 HX.out.2.1 (HX.out.2.2.1.trans ((gout gg).mono HX.out.2.2.1.size)) (HX.out.2.2.2.below (gout gg)))).mono ?_
 rintro _ _ ⟨rfl, gg, rfl⟩
 go_wp2_with fail
 go_ret
 exact ⟨rfl, gout _⟩
set_option maxRecDepth 100000 in
theorem wrong69_ok {W0 : World} {b1 b2 : Nat} {nm : ByteArray} {wd ln : Int} {ds : List S70} {bd : List S119} {A3 : Option Addr} {c3 : Nat} {A4 : Option Addr} {c4 : Nat} {R : Th -> Prop} {f : Th -> Bool} (hc : nE 199 W0 nm wd ln ds bd A3 c3 A4 c4 R f)
 (h1 : W0.heap[b1]? = ac (.cells #[.func (.func 199) #[] #[]] 240 (0, 0))) (h2 : W0.heap[b2]? = ac (.cells #[.string nm, .int .i64 wd, .int .i64 ln, .slice A3 ds.length c3, .slice A4 bd.length c4] 25 (0, 0))) : j4 W0 (.pointer (ac ⟨b1, 0, ag⟩)) (.pointer (ac ⟨b2, 0, ag⟩)) R f := by
 intro Wb W n dp sp ep dI lp t hR h0 hB ht
 have gout := @gA W
 have hBW := h0.trans (hB.mono h0.size)
 have k1 := (hBW.block b1 (aW h1)).trans h1
 have k2 := (hBW.block b2 (aW h2)).trans h2
 have l1 := aW k1
 have l2 := aW k2
 have y0 : W.cell? ⟨b1, 0, ag⟩ = ac (.func (.func 199) #[] #[]) := (aA k1 0).trans rfl
 have z0 : W.cell? ⟨b2, 0, ag⟩ = ac (.string nm) := (aA k2 0).trans rfl
 have z1 : W.cell? ⟨b2, 1, ag⟩ = ac (.int .i64 wd) := (aA k2 1).trans rfl
 have z2 : W.cell? ⟨b2, 2, ag⟩ = ac (.int .i64 ln) := (aA k2 2).trans rfl
 have z3 : W.cell? ⟨b2, 3, ag⟩ = ac (.slice A3 ds.length c3) := (aA k2 3).trans rfl
 have z4 : W.cell? ⟨b2, 4, ag⟩ = ac (.slice A4 bd.length c4) := (aA k2 4).trans rfl
 have HX := I (ae hR (ae h0 (ae hB ht)))
 have HC := I hc
 clear hR h0 hB ht hc k1 k2 h1 h2 hBW
 go_enter Tryz.func251, Tryz.ntmps251
 go_upto_region 1 with (fail)
 refine aH ?_
 intro gg
 go_wp2_with fail
 refine (aD (g := gg) (HC.out Wb gg.W n dp sp ep dI lp t HX.out.1 HX.out.2.1 (HX.out.2.2.1.trans ((gout gg).mono HX.out.2.2.1.size)) (HX.out.2.2.2.below (gout gg)))).mono ?_
 rintro _ _ ⟨rfl, gg, rfl⟩
 go_wp2_with fail
 go_ret
 exact ⟨rfl, gout _⟩
set_option maxRecDepth 100000 in
theorem wrong70_ok {W0 : World} {b1 b2 : Nat} {nm : ByteArray} {wd ln : Int} {ds : List S70} {bd : List S119} {A3 : Option Addr} {c3 : Nat} {A4 : Option Addr} {c4 : Nat} {R : Th -> Prop} {f : Th -> Bool} (hc : nE 200 W0 nm wd ln ds bd A3 c3 A4 c4 R f)
 (h1 : W0.heap[b1]? = ac (.cells #[.func (.func 200) #[] #[]] 240 (0, 0))) (h2 : W0.heap[b2]? = ac (.cells #[.string nm, .int .i64 wd, .int .i64 ln, .slice A3 ds.length c3, .slice A4 bd.length c4] 25 (0, 0))) : j4 W0 (.pointer (ac ⟨b1, 0, ag⟩)) (.pointer (ac ⟨b2, 0, ag⟩)) R f := by
 intro Wb W n dp sp ep dI lp t hR h0 hB ht
 have gout := @gA W
 have hBW := h0.trans (hB.mono h0.size)
 have k1 := (hBW.block b1 (aW h1)).trans h1
 have k2 := (hBW.block b2 (aW h2)).trans h2
 have l1 := aW k1
 have l2 := aW k2
 have y0 : W.cell? ⟨b1, 0, ag⟩ = ac (.func (.func 200) #[] #[]) := (aA k1 0).trans rfl
 have z0 : W.cell? ⟨b2, 0, ag⟩ = ac (.string nm) := (aA k2 0).trans rfl
 have z1 : W.cell? ⟨b2, 1, ag⟩ = ac (.int .i64 wd) := (aA k2 1).trans rfl
 have z2 : W.cell? ⟨b2, 2, ag⟩ = ac (.int .i64 ln) := (aA k2 2).trans rfl
 have z3 : W.cell? ⟨b2, 3, ag⟩ = ac (.slice A3 ds.length c3) := (aA k2 3).trans rfl
 have z4 : W.cell? ⟨b2, 4, ag⟩ = ac (.slice A4 bd.length c4) := (aA k2 4).trans rfl
 have HX := I (ae hR (ae h0 (ae hB ht)))
 have HC := I hc
 clear hR h0 hB ht hc k1 k2 h1 h2 hBW
 go_enter Tryz.func251, Tryz.ntmps251
 go_upto_region 1 with (fail)
 refine aH ?_
 intro gg
 go_wp2_with fail
 refine (aD (g := gg) (HC.out Wb gg.W n dp sp ep dI lp t HX.out.1 HX.out.2.1 (HX.out.2.2.1.trans ((gout gg).mono HX.out.2.2.1.size)) (HX.out.2.2.2.below (gout gg)))).mono ?_
 rintro _ _ ⟨rfl, gg, rfl⟩
 go_wp2_with fail
 go_ret
 exact ⟨rfl, gout _⟩
end
section
variable (nm : ByteArray) (wd ln : Int) (ds : List S70) (bd : List S119) (A3 : Option Addr) (c3 : Nat) (A4 : Option Addr) (c4 : Nat)
section
attribute [local go_sem] G.cell
theorem nZ {a c : Int} {b d : Bool} (h1 : a = c) (h2 : b = d) : fw (.tuple #[.int .i64 a, .bool b]) = .returned (.tuple #[.int .i64 c, .bool d]) := by rw [h1, h2]
set_option maxRecDepth 100000 in
theorem e9 {R : Th -> Prop} {f : Th -> Bool} (nm : ByteArray) (wd ln : Int) (ds : List S70) (bd : List S119) (A3 : Option Addr) (c3 : Nat) (A4 : Option Addr) (c4 : Nat) (b1 : Nat) (W : World) (hp : ProgAt W ds bd A3 c3 A4 c4) (hform : bdB bd = af) (hdl : ds.length <= 1048576) (hbb : Ot.bW bd <= 1048576) (hR : ∀ t ∈ things ds bd, R t)
 (hW : ∀ X b2, Below W.heap.size W X -> X.heap[b2]? = ac (.cells #[.string nm, .int .i64 wd, .int .i64 ln, .slice A3 ds.length c3, .slice A4 bd.length c4] 25 (0, 0)) -> j4 X (.pointer (ac ⟨b1, 0, ag⟩)) (.pointer (ac ⟨b2, 0, ag⟩)) R f) (r : Int × Bool) (hr : r = fD f (things ds bd)) :
 Calls ak 249 #[.agg #[.string nm, .int .i64 wd, .int .i64 ln, .slice A3 ds.length c3, .slice A4 bd.length c4], .pointer (ac ⟨b1, 0, ag⟩)] W fun e w' => e = .returned (.tuple #[.int .i64 r.1, .bool r.2]) /\ Below W.heap.size W w' := by
 have hmf : ∀ (fn : Fn) (first cap : Array Value) (w : World), (Instr.makeFunc fn first cap).run ak w = .ok (.func fn first cap) w := fun _ _ _ _ => rfl
 have gout := @gA W
 have HP := I hp
 have HR := I hr
 have HZ := I (ae hform (ae hdl (ae hbb hR)))
 have HW := I hW
 clear hp hr hform hdl hbb hR hW
 go_enter Tryz.func249, Tryz.ntmps249
 go_upto_region 1 with (fail)
 refine aH ?_
 intro gg
 have HBX := I (show gg.W.heap[W.heap.size]? = ac (.cells #[.string nm, .int .i64 wd, .int .i64 ln, .slice A3 ds.length c3, .slice A4 bd.length c4] 25 (0, 0)) from aB (aV _ _) gg.below)
 go_wp2_with fail
 have F := first_calls (HW.out gg.W W.heap.size (gout gg) HBX.out) nm wd ln ds bd A3 c3 A4 c4 gg.W (HP.out.below (gout gg)) HZ.out.1 HZ.out.2.1 HZ.out.2.2.1 HZ.out.2.2.2 (aq _ _)
 rw [<- HR.out] at F
 refine (aD (g := gg) F).mono ?_
 clear F
 rintro _ _ ⟨rfl, gg, rfl⟩
 go_wp2_with fail
 go_ret2
 exact ⟨rfl, gout _⟩
set_option maxRecDepth 100000 in
theorem whole44_calls (b1 : Nat) (W : World) (hb1 : W.heap[b1]? = ac (.cells #[.func (.func 75) #[] #[]] 33 (0, 0))) (b : Bool)
 (hc : ∀ X, Below W.heap.size W X -> Calls ak 75 #[.agg #[.string nm, .int .i64 wd, .int .i64 ln, .slice A3 ds.length c3, .slice A4 bd.length c4]] X fun e w' => e = .returned (.bool b) /\ Below X.heap.size X w') :
 Calls ak 246 #[.agg #[.string nm, .int .i64 wd, .int .i64 ln, .slice A3 ds.length c3, .slice A4 bd.length c4], .pointer (ac ⟨b1, 0, ag⟩)] W fun e w' => e = .returned (.tuple #[.int .i64 (-1), .bool (!b)]) /\ Below W.heap.size W w' := by
 have gout := @gA W
 have HC := I hc
 have l1 := aW hb1
 have y0 : W.cell? ⟨b1, 0, ag⟩ = ac (.func (.func 75) #[] #[]) := (aA hb1 0).trans rfl
 clear hc hb1
 go_enter Tryz.func246, Tryz.ntmps246
 go_upto_region 1 with (fail)
 refine aH ?_
 intro gg
 go_wp2_with fail
 refine (aD (g := gg) (HC.out gg.W (gout gg))).mono ?_
 rintro _ _ ⟨rfl, gg, rfl⟩
 go_wp2_with fail
 go_ret2
 exact ⟨rfl, gout _⟩
set_option maxRecDepth 100000 in
theorem whole45_calls (b1 : Nat) (W : World) (hb1 : W.heap[b1]? = ac (.cells #[.func (.func 175) #[] #[]] 33 (0, 0))) (b : Bool)
 (hc : ∀ X, Below W.heap.size W X -> Calls ak 175 #[.agg #[.string nm, .int .i64 wd, .int .i64 ln, .slice A3 ds.length c3, .slice A4 bd.length c4]] X fun e w' => e = .returned (.bool b) /\ Below X.heap.size X w') :
 Calls ak 246 #[.agg #[.string nm, .int .i64 wd, .int .i64 ln, .slice A3 ds.length c3, .slice A4 bd.length c4], .pointer (ac ⟨b1, 0, ag⟩)] W fun e w' => e = .returned (.tuple #[.int .i64 (-1), .bool (!b)]) /\ Below W.heap.size W w' := by
 have gout := @gA W
 have HC := I hc
 have l1 := aW hb1
 have y0 : W.cell? ⟨b1, 0, ag⟩ = ac (.func (.func 175) #[] #[]) := (aA hb1 0).trans rfl
 clear hc hb1
 go_enter Tryz.func246, Tryz.ntmps246
 go_upto_region 1 with (fail)
 refine aH ?_
 intro gg
 go_wp2_with fail
 refine (aD (g := gg) (HC.out gg.W (gout gg))).mono ?_
 rintro _ _ ⟨rfl, gg, rfl⟩
 go_wp2_with fail
 go_ret2
 exact ⟨rfl, gout _⟩
set_option maxRecDepth 100000 in
theorem whole47_calls (b1 : Nat) (W : World) (hb1 : W.heap[b1]? = ac (.cells #[.func (.func 177) #[] #[]] 33 (0, 0))) (b : Bool)
 (hc : ∀ X, Below W.heap.size W X -> Calls ak 177 #[.agg #[.string nm, .int .i64 wd, .int .i64 ln, .slice A3 ds.length c3, .slice A4 bd.length c4]] X fun e w' => e = .returned (.bool b) /\ Below X.heap.size X w') :
 Calls ak 246 #[.agg #[.string nm, .int .i64 wd, .int .i64 ln, .slice A3 ds.length c3, .slice A4 bd.length c4], .pointer (ac ⟨b1, 0, ag⟩)] W fun e w' => e = .returned (.tuple #[.int .i64 (-1), .bool (!b)]) /\ Below W.heap.size W w' := by
 have gout := @gA W
 have HC := I hc
 have l1 := aW hb1
 have y0 : W.cell? ⟨b1, 0, ag⟩ = ac (.func (.func 177) #[] #[]) := (aA hb1 0).trans rfl
 clear hc hb1
 go_enter Tryz.func246, Tryz.ntmps246
 go_upto_region 1 with (fail)
 refine aH ?_
 intro gg
 go_wp2_with fail
 refine (aD (g := gg) (HC.out gg.W (gout gg))).mono ?_
 rintro _ _ ⟨rfl, gg, rfl⟩
 go_wp2_with fail
 go_ret2
 exact ⟨rfl, gout _⟩
set_option maxRecDepth 100000 in
theorem whole48_calls (b1 : Nat) (W : World) (hb1 : W.heap[b1]? = ac (.cells #[.func (.func 178) #[] #[]] 33 (0, 0))) (b : Bool)
 (hc : ∀ X, Below W.heap.size W X -> Calls ak 178 #[.agg #[.string nm, .int .i64 wd, .int .i64 ln, .slice A3 ds.length c3, .slice A4 bd.length c4]] X fun e w' => e = .returned (.bool b) /\ Below X.heap.size X w') :
 Calls ak 246 #[.agg #[.string nm, .int .i64 wd, .int .i64 ln, .slice A3 ds.length c3, .slice A4 bd.length c4], .pointer (ac ⟨b1, 0, ag⟩)] W fun e w' => e = .returned (.tuple #[.int .i64 (-1), .bool (!b)]) /\ Below W.heap.size W w' := by
 have gout := @gA W
 have HC := I hc
 have l1 := aW hb1
 have y0 : W.cell? ⟨b1, 0, ag⟩ = ac (.func (.func 178) #[] #[]) := (aA hb1 0).trans rfl
 clear hc hb1
 go_enter Tryz.func246, Tryz.ntmps246
 go_upto_region 1 with (fail)
 refine aH ?_
 intro gg
 go_wp2_with fail
 refine (aD (g := gg) (HC.out gg.W (gout gg))).mono ?_
 rintro _ _ ⟨rfl, gg, rfl⟩
 go_wp2_with fail
 go_ret2
 exact ⟨rfl, gout _⟩
set_option maxRecDepth 100000 in
theorem whole58_calls (b1 : Nat) (W : World) (hb1 : W.heap[b1]? = ac (.cells #[.func (.func 188) #[] #[]] 33 (0, 0))) (b : Bool)
 (hc : ∀ X, Below W.heap.size W X -> Calls ak 188 #[.agg #[.string nm, .int .i64 wd, .int .i64 ln, .slice A3 ds.length c3, .slice A4 bd.length c4]] X fun e w' => e = .returned (.bool b) /\ Below X.heap.size X w') :
 Calls ak 246 #[.agg #[.string nm, .int .i64 wd, .int .i64 ln, .slice A3 ds.length c3, .slice A4 bd.length c4], .pointer (ac ⟨b1, 0, ag⟩)] W fun e w' => e = .returned (.tuple #[.int .i64 (-1), .bool (!b)]) /\ Below W.heap.size W w' := by
 have gout := @gA W
 have HC := I hc
 have l1 := aW hb1
 have y0 : W.cell? ⟨b1, 0, ag⟩ = ac (.func (.func 188) #[] #[]) := (aA hb1 0).trans rfl
 clear hc hb1
 go_enter Tryz.func246, Tryz.ntmps246
 go_upto_region 1 with (fail)
 refine aH ?_
 intro gg
 go_wp2_with fail
 refine (aD (g := gg) (HC.out gg.W (gout gg))).mono ?_
 rintro _ _ ⟨rfl, gg, rfl⟩
 go_wp2_with fail
 go_ret2
 exact ⟨rfl, gout _⟩
set_option maxRecDepth 100000 in
theorem whole71_calls (b1 : Nat) (W : World) (hb1 : W.heap[b1]? = ac (.cells #[.func (.func 201) #[] #[]] 33 (0, 0))) (b : Bool)
 (hc : ∀ X, Below W.heap.size W X -> Calls ak 201 #[.agg #[.string nm, .int .i64 wd, .int .i64 ln, .slice A3 ds.length c3, .slice A4 bd.length c4]] X fun e w' => e = .returned (.bool b) /\ Below X.heap.size X w') :
 Calls ak 246 #[.agg #[.string nm, .int .i64 wd, .int .i64 ln, .slice A3 ds.length c3, .slice A4 bd.length c4], .pointer (ac ⟨b1, 0, ag⟩)] W fun e w' => e = .returned (.tuple #[.int .i64 (-1), .bool (!b)]) /\ Below W.heap.size W w' := by
 have gout := @gA W
 have HC := I hc
 have l1 := aW hb1
 have y0 : W.cell? ⟨b1, 0, ag⟩ = ac (.func (.func 201) #[] #[]) := (aA hb1 0).trans rfl
 clear hc hb1
 go_enter Tryz.func246, Tryz.ntmps246
 go_upto_region 1 with (fail)
 refine aH ?_
 intro gg
 go_wp2_with fail
 refine (aD (g := gg) (HC.out gg.W (gout gg))).mono ?_
 rintro _ _ ⟨rfl, gg, rfl⟩
 go_wp2_with fail
 go_ret2
 exact ⟨rfl, gout _⟩
end
end
section
variable (nm : ByteArray) (wd ln : Int) (ds : List S70) (bd : List S119) (A3 : Option Addr) (c3 : Nat) (A4 : Option Addr) (c4 : Nat)
section
attribute [local go_sem] G.cell
def eO (f : Nat -> Bool) (n : Nat) : Int × Bool := match aZ n f with
 | some i => ((i : Int), af)
 | none => (0, J)
set_option maxRecDepth 100000 in
theorem decls50_calls (b1 : Nat) (W : World) (hlm : ds.length <= 1048576) (hb1 : W.heap[b1]? = ac (.cells #[.func (.func 180) #[] #[]] 55 (0, 0))) (f : Nat -> Bool)
 (hc : ∀ X i, Below W.heap.size W X -> i < ds.length -> Calls ak 180 #[.agg #[.string nm, .int .i64 wd, .int .i64 ln, .slice A3 ds.length c3, .slice A4 bd.length c4], .int .i64 (i : Int)] X fun e w' => e = .returned (.bool (f i)) /\ Below X.heap.size X w') (r : Int × Bool) (hr : r = eO f ds.length) :
 Calls ak 247 #[.agg #[.string nm, .int .i64 wd, .int .i64 ln, .slice A3 ds.length c3, .slice A4 bd.length c4], .pointer (ac ⟨b1, 0, ag⟩)] W fun e w' => e = .returned (.tuple #[.int .i64 r.1, .bool r.2]) /\ Below W.heap.size W w' := by
 have gout := @gA W
 have HC := I hc
 have HR := I hr
 have l1 := aW hb1
 have y0 : W.cell? ⟨b1, 0, ag⟩ = ac (.func (.func 180) #[] #[]) := (aA hb1 0).trans rfl
 clear hc hb1 hr
 go_enter Tryz.func247, Tryz.ntmps247
 go_upto_region 1 with (fail)
 refine aH ?_
 intro gg
 have goutW : ∀ (g : G (gw0 gg)), Below W.heap.size W g.W := fun g => gout g
 go_wp2_with fail
 go_loopw [9] (fun i X => ∃ (k : Nat) (g : G (gw0 gg)), i = .int .i64 k /\ X = g.W /\ k <= ds.length /\ Aside0 (∀ j, j < k -> f j = J)) (fun i _ => ds.length - (intOf i).toNat)
 case atStart => exact ⟨0, gg, rfl, rfl, bi _, ⟨fun j hj => absurd hj (cq _)⟩⟩
 case round =>
  obtain ⟨k, gx, rfl, rfl, hk, HK⟩ := hrel
  by_cases hlt : k < ds.length
  ·have hk1 : (k : Int) < (ds.length : Int) := by omega
   go_wp2_with fail
   refine (aD (g := gx) (HC.out gx.W k (goutW gx) hlt)).mono ?_
   rintro _ _ ⟨rfl, g2, rfl⟩
   cases hf : f k
   ·have HF := I hf
    clear hf
    go_wp2_with fail
    exact ⟨⟨k + 1, g2, by go_num, rfl, by omega, ⟨fun j hj => (gh (j = k)).elim (fun h => h ▸ HF.out) (fun h => HK.out j (by omega))⟩⟩, by simp [intOf]; omega⟩
   ·have HF := I hf
    clear hf
    go_wp2_with fail
    go_ret2
    have e : r = ((k : Int), af) := by rw [HR.out]; unfold eO; rw [cB hlt HF.out HK.out]
    exact ⟨nZ (by rw [e]) (by rw [e]), goutW _⟩
  ·have hk1 : ¬ (k : Int) < (ds.length : Int) := by omega
   go_wp2_with fail
   go_ret2
   have e : r = (0, J) := by rw [HR.out]; unfold eO; rw [bG fun j hj => HK.out j (by omega)]
   exact ⟨nZ (by rw [e]) (by rw [e]), goutW _⟩
set_option maxRecDepth 100000 in
theorem decls52_calls (b1 : Nat) (W : World) (hlm : ds.length <= 1048576) (hb1 : W.heap[b1]? = ac (.cells #[.func (.func 182) #[] #[]] 55 (0, 0))) (f : Nat -> Bool)
 (hc : ∀ X i, Below W.heap.size W X -> i < ds.length -> Calls ak 182 #[.agg #[.string nm, .int .i64 wd, .int .i64 ln, .slice A3 ds.length c3, .slice A4 bd.length c4], .int .i64 (i : Int)] X fun e w' => e = .returned (.bool (f i)) /\ Below X.heap.size X w') (r : Int × Bool) (hr : r = eO f ds.length) :
 Calls ak 247 #[.agg #[.string nm, .int .i64 wd, .int .i64 ln, .slice A3 ds.length c3, .slice A4 bd.length c4], .pointer (ac ⟨b1, 0, ag⟩)] W fun e w' => e = .returned (.tuple #[.int .i64 r.1, .bool r.2]) /\ Below W.heap.size W w' := by
 have gout := @gA W
 have HC := I hc
 have HR := I hr
 have l1 := aW hb1
 have y0 : W.cell? ⟨b1, 0, ag⟩ = ac (.func (.func 182) #[] #[]) := (aA hb1 0).trans rfl
 clear hc hb1 hr
 go_enter Tryz.func247, Tryz.ntmps247
 go_upto_region 1 with (fail)
 refine aH ?_
 intro gg
 have goutW : ∀ (g : G (gw0 gg)), Below W.heap.size W g.W := fun g => gout g
 go_wp2_with fail
 go_loopw [9] (fun i X => ∃ (k : Nat) (g : G (gw0 gg)), i = .int .i64 k /\ X = g.W /\ k <= ds.length /\ Aside0 (∀ j, j < k -> f j = J)) (fun i _ => ds.length - (intOf i).toNat)
 case atStart => exact ⟨0, gg, rfl, rfl, bi _, ⟨fun j hj => absurd hj (cq _)⟩⟩
 case round =>
  obtain ⟨k, gx, rfl, rfl, hk, HK⟩ := hrel
  by_cases hlt : k < ds.length
  ·have hk1 : (k : Int) < (ds.length : Int) := by omega
   go_wp2_with fail
   refine (aD (g := gx) (HC.out gx.W k (goutW gx) hlt)).mono ?_
   rintro _ _ ⟨rfl, g2, rfl⟩
   cases hf : f k
   ·have HF := I hf
    clear hf
    go_wp2_with fail
    exact ⟨⟨k + 1, g2, by go_num, rfl, by omega, ⟨fun j hj => (gh (j = k)).elim (fun h => h ▸ HF.out) (fun h => HK.out j (by omega))⟩⟩, by simp [intOf]; omega⟩
   ·have HF := I hf
    clear hf
    go_wp2_with fail
    go_ret2
    have e : r = ((k : Int), af) := by rw [HR.out]; unfold eO; rw [cB hlt HF.out HK.out]
    exact ⟨nZ (by rw [e]) (by rw [e]), goutW _⟩
  ·have hk1 : ¬ (k : Int) < (ds.length : Int) := by omega
   go_wp2_with fail
   go_ret2
   have e : r = (0, J) := by rw [HR.out]; unfold eO; rw [bG fun j hj => HK.out j (by omega)]
   exact ⟨nZ (by rw [e]) (by rw [e]), goutW _⟩
set_option maxRecDepth 100000 in
theorem decls53_calls (b1 : Nat) (W : World) (hlm : ds.length <= 1048576) (hb1 : W.heap[b1]? = ac (.cells #[.func (.func 183) #[] #[]] 55 (0, 0))) (f : Nat -> Bool)
 (hc : ∀ X i, Below W.heap.size W X -> i < ds.length -> Calls ak 183 #[.agg #[.string nm, .int .i64 wd, .int .i64 ln, .slice A3 ds.length c3, .slice A4 bd.length c4], .int .i64 (i : Int)] X fun e w' => e = .returned (.bool (f i)) /\ Below X.heap.size X w') (r : Int × Bool) (hr : r = eO f ds.length) :
 Calls ak 247 #[.agg #[.string nm, .int .i64 wd, .int .i64 ln, .slice A3 ds.length c3, .slice A4 bd.length c4], .pointer (ac ⟨b1, 0, ag⟩)] W fun e w' => e = .returned (.tuple #[.int .i64 r.1, .bool r.2]) /\ Below W.heap.size W w' := by
 have gout := @gA W
 have HC := I hc
 have HR := I hr
 have l1 := aW hb1
 have y0 : W.cell? ⟨b1, 0, ag⟩ = ac (.func (.func 183) #[] #[]) := (aA hb1 0).trans rfl
 clear hc hb1 hr
 go_enter Tryz.func247, Tryz.ntmps247
 go_upto_region 1 with (fail)
 refine aH ?_
 intro gg
 have goutW : ∀ (g : G (gw0 gg)), Below W.heap.size W g.W := fun g => gout g
 go_wp2_with fail
 go_loopw [9] (fun i X => ∃ (k : Nat) (g : G (gw0 gg)), i = .int .i64 k /\ X = g.W /\ k <= ds.length /\ Aside0 (∀ j, j < k -> f j = J)) (fun i _ => ds.length - (intOf i).toNat)
 case atStart => exact ⟨0, gg, rfl, rfl, bi _, ⟨fun j hj => absurd hj (cq _)⟩⟩
 case round =>
  obtain ⟨k, gx, rfl, rfl, hk, HK⟩ := hrel
  by_cases hlt : k < ds.length
  ·have hk1 : (k : Int) < (ds.length : Int) := by omega
   go_wp2_with fail
   refine (aD (g := gx) (HC.out gx.W k (goutW gx) hlt)).mono ?_
   rintro _ _ ⟨rfl, g2, rfl⟩
   cases hf : f k
   ·have HF := I hf
    clear hf
    go_wp2_with fail
    exact ⟨⟨k + 1, g2, by go_num, rfl, by omega, ⟨fun j hj => (gh (j = k)).elim (fun h => h ▸ HF.out) (fun h => HK.out j (by omega))⟩⟩, by simp [intOf]; omega⟩
   ·have HF := I hf
    clear hf
    go_wp2_with fail
    go_ret2
    have e : r = ((k : Int), af) := by rw [HR.out]; unfold eO; rw [cB hlt HF.out HK.out]
    exact ⟨nZ (by rw [e]) (by rw [e]), goutW _⟩
  ·have hk1 : ¬ (k : Int) < (ds.length : Int) := by omega
   go_wp2_with fail
   go_ret2
   have e : r = (0, J) := by rw [HR.out]; unfold eO; rw [bG fun j hj => HK.out j (by omega)]
   exact ⟨nZ (by rw [e]) (by rw [e]), goutW _⟩
set_option maxRecDepth 100000 in
theorem decls54_calls (b1 : Nat) (W : World) (hlm : ds.length <= 1048576) (hb1 : W.heap[b1]? = ac (.cells #[.func (.func 184) #[] #[]] 55 (0, 0))) (f : Nat -> Bool)
 (hc : ∀ X i, Below W.heap.size W X -> i < ds.length -> Calls ak 184 #[.agg #[.string nm, .int .i64 wd, .int .i64 ln, .slice A3 ds.length c3, .slice A4 bd.length c4], .int .i64 (i : Int)] X fun e w' => e = .returned (.bool (f i)) /\ Below X.heap.size X w') (r : Int × Bool) (hr : r = eO f ds.length) :
 Calls ak 247 #[.agg #[.string nm, .int .i64 wd, .int .i64 ln, .slice A3 ds.length c3, .slice A4 bd.length c4], .pointer (ac ⟨b1, 0, ag⟩)] W fun e w' => e = .returned (.tuple #[.int .i64 r.1, .bool r.2]) /\ Below W.heap.size W w' := by
 have gout := @gA W
 have HC := I hc
 have HR := I hr
 have l1 := aW hb1
 have y0 : W.cell? ⟨b1, 0, ag⟩ = ac (.func (.func 184) #[] #[]) := (aA hb1 0).trans rfl
 clear hc hb1 hr
 go_enter Tryz.func247, Tryz.ntmps247
 go_upto_region 1 with (fail)
 refine aH ?_
 intro gg
 have goutW : ∀ (g : G (gw0 gg)), Below W.heap.size W g.W := fun g => gout g
 go_wp2_with fail
 go_loopw [9] (fun i X => ∃ (k : Nat) (g : G (gw0 gg)), i = .int .i64 k /\ X = g.W /\ k <= ds.length /\ Aside0 (∀ j, j < k -> f j = J)) (fun i _ => ds.length - (intOf i).toNat)
 case atStart => exact ⟨0, gg, rfl, rfl, bi _, ⟨fun j hj => absurd hj (cq _)⟩⟩
 case round =>
  obtain ⟨k, gx, rfl, rfl, hk, HK⟩ := hrel
  by_cases hlt : k < ds.length
  ·have hk1 : (k : Int) < (ds.length : Int) := by omega
   go_wp2_with fail
   refine (aD (g := gx) (HC.out gx.W k (goutW gx) hlt)).mono ?_
   rintro _ _ ⟨rfl, g2, rfl⟩
   cases hf : f k
   ·have HF := I hf
    clear hf
    go_wp2_with fail
    exact ⟨⟨k + 1, g2, by go_num, rfl, by omega, ⟨fun j hj => (gh (j = k)).elim (fun h => h ▸ HF.out) (fun h => HK.out j (by omega))⟩⟩, by simp [intOf]; omega⟩
   ·have HF := I hf
    clear hf
    go_wp2_with fail
    go_ret2
    have e : r = ((k : Int), af) := by rw [HR.out]; unfold eO; rw [cB hlt HF.out HK.out]
    exact ⟨nZ (by rw [e]) (by rw [e]), goutW _⟩
  ·have hk1 : ¬ (k : Int) < (ds.length : Int) := by omega
   go_wp2_with fail
   go_ret2
   have e : r = (0, J) := by rw [HR.out]; unfold eO; rw [bG fun j hj => HK.out j (by omega)]
   exact ⟨nZ (by rw [e]) (by rw [e]), goutW _⟩
set_option maxRecDepth 100000 in
theorem c45_calls (W : World)  (b : Bool) (hb : b = cV wd) :
 Calls ak 175 #[.agg #[.string nm, .int .i64 wd, .int .i64 ln, .slice A3 ds.length c3, .slice A4 bd.length c4]] W fun e w' => e = .returned (.bool b) /\ Below W.heap.size W w' := by
 have gout := @gA W
 have HR := I hb
 clear hb
 go_enter Tryz.func175, Tryz.ntmps175
 go_upto_region 1 with (fail)
 refine aH ?_
 intro gg
 by_cases h : wd ≥ 4
 ·have H := I h
  go_wp2_with fail
  refine (aD (g := gg) (kM wd 64 gg.W (by decide) _ rfl)).mono ?_
  rintro _ _ ⟨rfl, gg, rfl⟩
  go_wp2_with fail
  go_ret
  refine ⟨aC ?_, gout _⟩
  rw [HR.out]
  have h4 := H.out
  by_cases h64 : wd <= 64
  ·rw [decide_eq_true h64, jy]
   unfold cZ cV
   have e1 : (wd == 1) = J := by simp; omega
   have e2 : (wd == 2) = J := by simp; omega
   have e3 : (wd == 128) = J := by simp; omega
   have e4 : (wd == 256) = J := by simp; omega
   rw [e1, e2, e3, e4]
   simp
  ·rw [decide_eq_false h64, jb]
   unfold cV
   have e1 : (wd == 4) = J := by simp; omega
   have e2 : (wd == 8) = J := by simp; omega
   have e3 : (wd == 16) = J := by simp; omega
   have e4 : (wd == 32) = J := by simp; omega
   have e5 : (wd == 64) = J := by simp; omega
   rw [e1, e2, e3, e4, e5]
   rfl
 ·have H := I h
  go_wp2_with fail
  go_ret
  refine ⟨aC ?_, gout _⟩
  rw [HR.out]
  have h4 := H.out
  unfold cV
  have e1 : (wd == 4) = J := by simp; omega
  have e2 : (wd == 8) = J := by simp; omega
  have e3 : (wd == 16) = J := by simp; omega
  have e4 : (wd == 32) = J := by simp; omega
  have e5 : (wd == 64) = J := by simp; omega
  rw [e1, e2, e3, e4, e5]
  rfl
set_option maxRecDepth 100000 in
theorem c47_calls (W : World)  (b : Bool) (hb : b = cZ ln) :
 Calls ak 177 #[.agg #[.string nm, .int .i64 wd, .int .i64 ln, .slice A3 ds.length c3, .slice A4 bd.length c4]] W fun e w' => e = .returned (.bool b) /\ Below W.heap.size W w' := by
 have gout := @gA W
 have HR := I hb
 clear hb
 go_enter Tryz.func177, Tryz.ntmps177
 go_upto_region 1 with (fail)
 refine aH ?_
 intro gg
 go_wp2_with fail
 refine (aD (g := gg) (kM ln 256 gg.W (by decide) b (by
  rw [HR.out]
  by_cases h : ln <= 256
  ·rw [decide_eq_true h, jy]
  ·rw [decide_eq_false h, jb, pow_out (.inr (by omega))]))).mono ?_
 rintro _ _ ⟨rfl, gg, rfl⟩
 go_wp2_with fail
 go_ret
 exact ⟨rfl, gout _⟩
set_option maxRecDepth 100000 in
theorem c48_calls (W : World) (hlm : ds.length <= 1048576) (b : Bool) (hb : b = decide (ds.length <= 256)) :
 Calls ak 178 #[.agg #[.string nm, .int .i64 wd, .int .i64 ln, .slice A3 ds.length c3, .slice A4 bd.length c4]] W fun e w' => e = .returned (.bool b) /\ Below W.heap.size W w' := by
 have gout := @gA W
 have HR := I hb
 clear hb
 go_enter Tryz.func178, Tryz.ntmps178
 go_upto_region 1 with (fail)
 refine aH ?_
 intro gg
 by_cases h : ds.length <= 256
 ·have h' : (ds.length : Int) <= 256 := by omega
  have H := I h
  clear h
  go_wp2_with fail
  go_ret
  exact ⟨aC (by rw [HR.out, decide_eq_true H.out]), gout _⟩
 ·have h' : ¬ (ds.length : Int) <= 256 := by omega
  have H := I h
  clear h
  go_wp2_with fail
  go_ret
  exact ⟨aC (by rw [HR.out, decide_eq_false (by have := H.out; omega)]), gout _⟩
end
end
section
attribute [local go_sem] G.cell
theorem cap_step (s a C : Nat) : min (min (min s C + 1) C + a) C = min (s + (1 + a)) C := by omega
theorem cap_one (s C : Nat) : min (min s C + 1) C = min (s + (1 + 0)) C := by omega
theorem cap_if (s w a b C : Nat) : min (min (min s C + 1) C + (w + (min a C + min b C))) C = min (s + (1 + (w + a + b))) C := by omega
theorem cap_mul (n a C : Nat) (hC : 0 < C) : min (n * min (1 + min a C) C) C = min (n * (1 + a)) C := by
 rcases cf n with rfl | hn
 ·simp
 ·by_cases h : 1 + a <= C
  ·rw [cy (show a <= C by omega), cy h]
  ·have h1 : min (1 + min a C) C = C := by omega
   have h2 : C <= n * C := Nat.le_mul_of_pos_left C hn
   have h3 : C <= n * (1 + a) := bh h2 (Nat.mul_le_mul_left n (by omega))
   rw [h1, iw h2, iw h3]
theorem cap_for (s n a C : Nat) (hC : 0 < C) : min (min (min s C + 1) C + min (n * min (1 + min a C) C) C) C = min (s + (1 + n * (1 + a))) C := by
 rw [cap_mul n a C hC]
 generalize n * (1 + a) = z
 omega
theorem u64_in {z : Int} (h0 : 0 <= z) (h1 : z < 18446744073709551616) : IntKind.u64.wrap z = z := by simp only [IntKind.wrap, ik, jg, jb, jv, if_false]; omega
theorem timesZ_calls (z : Int) (n s r : Nat) (hz : z = n) (hn : n < 18446744073709551616) (hs : s <= 1099511627776) (hr : r = min (n * s) 1099511627776) (w : World) :
 Calls ak 157 #[.int .u64 z, .int .i64 s] w fun e w' => e = .returned (.int .i64 (r : Int)) /\ Below w.heap.size w w' := by subst hz; exact times_calls n s r hn hs hr w
theorem mF {a b n : Nat} (h1 : a <= n) (h2 : b <= n) : ∀ x ∈ [a, b], x <= n := by intro x hx; rcases gi.1 hx with rfl | hx; exact h1; rcases gi.1 hx with rfl | hx; exact h2; cases hx
theorem le_of3 {a b c n : Nat} (h1 : a <= n) (h2 : b <= n) (h3 : c <= n) : ∀ x ∈ [a, b, c], x <= n := by intro x hx; rcases gi.1 hx with rfl | hx; exact h1; exact mF h2 h3 x hx
theorem le_of4 {a b c d n : Nat} (h1 : a <= n) (h2 : b <= n) (h3 : c <= n) (h4 : d <= n) : ∀ x ∈ [a, b, c, d], x <= n := by intro x hx; rcases gi.1 hx with rfl | hx; exact h1; exact le_of3 h2 h3 h4 x hx
set_option maxRecDepth 100000 in
theorem size_walk (l : List S119) (hg : ∀ x ∈ l, 0 <= x.f4 /\ 0 <= x.f5 /\ x.f4 < 18446744073709551616 /\ x.f5 < 18446744073709551616 /\ aK x.f2 <= 1099511627776 /\ aK x.f3 <= 1099511627776) (ih : ∀ x ∈ l, SizeC 114 1099511627776 x.f6 /\ SizeC 114 1099511627776 x.f7) : SizeC 114 1099511627776 l := by
 intro A c w hc hl
 have IH := I ih
 have HC := I hc
 have GD := I hg
 have hlm := hc.2.1
 clear ih hc hg
 go_enter Tryz.func114, Tryz.ntmps114
 go_wp2
 go_loopw [8, 3] (fun i n W => ∃ (k : Nat) (g : G w), i = .int .i64 k /\ (∃ m : Nat, n = .int .i64 m /\ m = min (bR (l.take k)) 1099511627776) /\ W = g.W /\ k <= l.length) (fun i n _ => l.length - (intOf i).toNat)
 case atStart => exact ⟨0, ⟨w, aq _ _⟩, rfl, ⟨0, rfl, by simp [bR]⟩, rfl, bi _⟩
 case round =>
  obtain ⟨k, g, rfl, ⟨m, rfl, hm⟩, rfl, hk⟩ := hrel
  by_cases hlt : k < l.length
  ·obtain ⟨ad, A5, c5, A9, c9, A12, c12, A13, c13, e1, q0, q1, q2, q3, q4, q5, q6, q7, q8, q9, q10, q11, q12, q13, l5, g5, l9, g9, l12, g12, l13, g13⟩ := gV HC.out (k : Int) (bc _) (by omega)
   cases e1
   rw [av] at q0 q1 q2 q3 q4 q5 q6 q7 q8 q9 q10 q11 q12 q13
   replace q0 := (g.below.cell (aj w _ q0)).trans q0
   replace q1 := (g.below.cell (aj w _ q1)).trans q1
   replace q2 := (g.below.cell (aj w _ q2)).trans q2
   replace q3 := (g.below.cell (aj w _ q3)).trans q3
   replace q4 := (g.below.cell (aj w _ q4)).trans q4
   replace q5 := (g.below.cell (aj w _ q5)).trans q5
   replace q6 := (g.below.cell (aj w _ q6)).trans q6
   replace q7 := (g.below.cell (aj w _ q7)).trans q7
   replace q8 := (g.below.cell (aj w _ q8)).trans q8
   replace q9 := (g.below.cell (aj w _ q9)).trans q9
   replace q10 := (g.below.cell (aj w _ q10)).trans q10
   replace q11 := (g.below.cell (aj w _ q11)).trans q11
   replace q12 := (g.below.cell (aj w _ q12)).trans q12
   replace q13 := (g.below.cell (aj w _ q13)).trans q13
   have hi1 : (k : Int) < (l.length : Int) := by omega
   have K := I (ae l5 (ae g5 (ae l9 (ae g9 (ae l12 (ae g12 (ae l13 g13)))))))
   clear l5 g5 l9 g9 l12 g12 l13 g13
   have MEM := iK hlt
   have T := congrArg bR (fA hlt)
   rw [mR, fP] at T
   have GD1 := I (GD.out _ MEM)
   have IH1 := I (IH.out _ MEM)
   clear MEM
   generalize aQ l (k : Int) = x at *
   obtain ⟨m1, hm1⟩ : ∃ r, r = min [m, 1].sum 1099511627776 := ⟨_, rfl⟩
   have hm1' : m1 = min (m + 1) 1099511627776 := by simpa using hm1
   have M := I (ae hm (ae hm1' (ae T hm1)))
   have hmb := I (show m <= 1099511627776 /\ m1 <= 1099511627776 from ⟨by rw [hm]; exact Nat.min_le_right _ _, by rw [hm1]; exact Nat.min_le_right _ _⟩)
   clear hm hm1 hm1' T
   have kk : x.f0 = 1 \/ x.f0 = 2 \/ x.f0 = 3 \/ x.f0 = 4 \/ (¬ x.f0 = 1 /\ ¬ x.f0 = 2 /\ ¬ x.f0 = 3 /\ ¬ x.f0 = 4) := by omega
   rcases kk with h0 | h0 | h0 | h0 | ⟨h1, h2, h3, h4⟩
   ·rw [h0] at q0
    have H0 := I h0
    clear h0
    go_upto_region 5 with (fail)
    refine aH ?_
    intro gg
    go_wp2_with fail
    refine (cN (g := gg) (dV [m, 1] m1 M.out.2.2.2 (mF hmb.out.1 (by omega)) (by simp) (ac ⟨gg.W.heap.size, 0, ag⟩) 2 _ (gL _ [m, 1] 3 (by simp)) (by simp))).mono ?_
    rintro _ _ ⟨rfl, gg, rfl⟩
    go_wp2_with fail
    refine (aD (g := gg) (weigh_v GD1.out.2.2.2.2.2 A9 c9 gg.W (Kd.aF K.out.2.2.2.1 (G.deep (g := g) gg)) K.out.2.2.1)).mono ?_
    rintro _ _ ⟨rfl, gg, rfl⟩
    go_wp2_with fail
    obtain ⟨m2, hm2⟩ : ∃ r, r = min [m1, aK x.f3].sum 1099511627776 := ⟨_, rfl⟩
    have HM2 := I hm2
    clear hm2
    refine (cN (g := gg) (dV [m1, aK x.f3] m2 HM2.out (mF hmb.out.2 GD1.out.2.2.2.2.2) (by simp) (ac ⟨gg.W.heap.size, 0, ag⟩) 2 _ (gL _ [m1, aK x.f3] 3 (by simp)) (by simp))).mono ?_
    rintro _ _ ⟨rfl, gg, rfl⟩
    go_wp2_with fail
    refine ⟨⟨k + 1, mkG (G.deep (g := g) gg), by go_num, ⟨m2, rfl, ?_⟩, rfl, by omega⟩, by simp [intOf]; omega⟩
    obtain ⟨e1, e2, e3, _⟩ := M.out
    have e4 : m2 = min (m1 + aK x.f3) 1099511627776 := by simpa using HM2.out
    rw [e3, H0.out, if_pos rfl, e4, e2, e1]
    exact cap_step _ _ _
   ·rw [h0] at q0
    have H0 := I h0
    clear h0
    go_upto_region 5 with (fail)
    refine aH ?_
    intro gg
    go_wp2_with fail
    refine (cN (g := gg) (dV [m, 1] m1 M.out.2.2.2 (mF hmb.out.1 (by omega)) (by simp) (ac ⟨gg.W.heap.size, 0, ag⟩) 2 _ (gL _ [m, 1] 3 (by simp)) (by simp))).mono ?_
    rintro _ _ ⟨rfl, gg, rfl⟩
    obtain ⟨m2, hm2⟩ : ∃ r, r = min [m1, aK x.f2, aK x.f3].sum 1099511627776 := ⟨_, rfl⟩
    have HM2 := I hm2
    clear hm2
    go_upto_region 10 with (fail)
    refine fZ (n := 10) (S := fun w' => ∃ g' : G _, w' = g'.W) (ds := []) #[J, J, J, J, J, J, J, J, J, J] (by kernel_rfl) rfl rfl ⟨mkG (gg.2.drew), rfl⟩ (fun hHeld => ?_)
    obtain ⟨gd, hgd⟩ := hHeld
    rw [hgd]
    clear hgd
    refine bB (i := 0) (N := ac 27) (v := ?_) (a' := ?_) #[af, J, J, J, J, J, J, J, J, J] rfl rfl (by kernel_rfl) (fun _ _ _ h => h) (bg ⟨by rfl, ?_⟩) ?_ ?_
    rotate_left
    ·intro w'
     go_simp
     with_reducible rfl
    rotate_left
    ·simp only [ax, aa, ah, ai, aN, aM]
     rfl
    refine bB (i := 1) (N := ac 28) (v := ?_) (a' := ?_) #[af, af, J, J, J, J, J, J, J, J] rfl rfl (by kernel_rfl) (fun _ _ _ h => h) (bg ⟨by rfl, ?_⟩) ?_ ?_
    rotate_left
    ·intro w'
     go_simp
     with_reducible rfl
    rotate_left
    ·simp only [ax, aa, ah, ai, aN, aM]
     rfl
    refine bB (i := 4) (N := ac 31) (v := ?_) (a' := ?_) #[af, af, J, J, af, J, J, J, J, J] rfl rfl (by kernel_rfl) (fun _ _ _ h => h) (bg ⟨by rfl, ?_⟩) ?_ ?_
    rotate_left
    ·intro w'
     go_simp
     with_reducible rfl
    rotate_left
    ·simp only [ax, aa, ah, ai, aN, aM]
     rfl
    refine dP (i := 2) (N := ac 29) (v := ?_) (a' := ?_) #[af, af, af, J, af, J, J, J, J, J] rfl rfl (by kernel_rfl) (fun _ _ _ h => h) (bg ⟨by rfl, ?_⟩) ⟨gd, rfl⟩ ?_ ?_
    rotate_left
    ·rintro w' ⟨g', rfl⟩
     go_simp
     with_reducible rfl
    rotate_left
    ·simp only [ax, aa, ah, ai, aN, aM]
     rfl
    refine dP (i := 5) (N := ac 32) (v := ?_) (a' := ?_) #[af, af, af, J, af, af, J, J, J, J] rfl rfl (by kernel_rfl) (fun _ _ _ h => h) (bg ⟨by rfl, ?_⟩) ⟨gd, rfl⟩ ?_ ?_
    rotate_left
    ·rintro w' ⟨g', rfl⟩
     go_simp
     with_reducible rfl
    rotate_left
    ·simp only [ax, aa, ah, ai, aN, aM]
     rfl
    refine kJ (i := 3) (N := ac 30) #[af, af, af, af, af, af, J, J, J, J] rfl rfl (by kernel_rfl) (by simp) (fun Kr hKr => ?_)
    refine j5 Tryz.func156 (by kernel_rfl) rfl #[.agg #[.int .i64 x.f2.f0, .int .u64 x.f2.f1, .string x.f2.f2, .slice A5 x.f2.f3.length c5]] (by rfl) rfl rfl (by (try simp only [cb, cm, cw]); first | done | rfl) ?_
    refine (weigh_v GD1.out.2.2.2.2.1 A5 c5 gd.W (Kd.aF K.out.2.1 (G.deep (g := g) gd)) K.out.1).mono ?_
    rintro _ w9 ⟨rfl, hb⟩
    refine ⟨_, rfl, ?_⟩
    obtain ⟨gd, rfl⟩ : ∃ g' : G _, w9 = g'.W := ⟨mkG (gd.below.trans (hb.mono gd.below.size)), rfl⟩
    clear hb
    refine hKr.out _ _ ⟨gd, rfl⟩ (fun _ => ?_)
    clear hKr Kr
    refine cU (a' := ?_) ?_ ?_
    rotate_left
    ·show ax _ (ac 30) _ = _
     simp only [ax, aa, ah, ai, aN, aM]
     rfl
    refine kJ (i := 6) (N := ac 33) #[af, af, af, af, af, af, af, J, J, J] rfl rfl (by kernel_rfl) (by simp) (fun Kr hKr => ?_)
    refine j5 Tryz.func156 (by kernel_rfl) rfl #[.agg #[.int .i64 x.f3.f0, .int .u64 x.f3.f1, .string x.f3.f2, .slice A9 x.f3.f3.length c9]] (by rfl) rfl rfl (by (try simp only [cb, cm, cw]); first | done | rfl) ?_
    refine (weigh_v GD1.out.2.2.2.2.2 A9 c9 gd.W (Kd.aF K.out.2.2.2.1 (G.deep (g := g) gd)) K.out.2.2.1).mono ?_
    rintro _ w9 ⟨rfl, hb⟩
    refine ⟨_, rfl, ?_⟩
    obtain ⟨gd, rfl⟩ : ∃ g' : G _, w9 = g'.W := ⟨mkG (gd.below.trans (hb.mono gd.below.size)), rfl⟩
    clear hb
    refine hKr.out _ _ ⟨gd, rfl⟩ (fun _ => ?_)
    clear hKr Kr
    refine cU (a' := ?_) ?_ ?_
    rotate_left
    ·show ax _ (ac 33) _ = _
     simp only [ax, aa, ah, ai, aN, aM]
     rfl
    refine kJ (i := 7) (N := ac 34) #[af, af, af, af, af, af, af, af, J, J] rfl rfl (by kernel_rfl) (by simp) (fun Kr hKr => ?_)
    refine dZ (v := .slice (ac ⟨gd.W.heap.size, 0, ag⟩) 3 3) (w1 := gd.W.alloc (.cells #[.int .i64 (m1 : Int), .int .i64 ((aK x.f2 : Nat) : Int), .int .i64 ((aK x.f3 : Nat) : Int)] 3)) (by rfl) (by first | (go_simp; done) | (go_simp; rfl)) ?_
    refine hKr.out _ _ ⟨mkG (G.ball gd _), rfl⟩ (fun _ => ?_)
    clear hKr Kr
    refine cU (a' := ?_) ?_ ?_
    rotate_left
    ·show ax _ (ac 34) _ = _
     simp only [ax, aa, ah, ai, aN, aM]
     rfl
    refine kJ (i := 8) (N := ac 35) #[af, af, af, af, af, af, af, af, af, J] rfl rfl (by kernel_rfl) (by simp) (fun Kr hKr => ?_)
    refine j5 Tryz.func155 (by kernel_rfl) rfl #[.slice (ac ⟨gd.W.heap.size, 0, ag⟩) 3 3] (by rfl) rfl rfl (by (try simp only [cb, cm, cw]); first | done | rfl) ?_
    refine (dV [m1, aK x.f2, aK x.f3] m2 HM2.out (le_of3 hmb.out.2 GD1.out.2.2.2.2.1 GD1.out.2.2.2.2.2) (by simp) (ac ⟨gd.W.heap.size, 0, ag⟩) 3 _ (gL _ [m1, aK x.f2, aK x.f3] 3 (by simp)) (by simp)).mono ?_
    rintro _ w9 ⟨rfl, hb⟩
    refine ⟨_, rfl, ?_⟩
    obtain ⟨gd, rfl⟩ : ∃ g' : G _, w9 = g'.W := ⟨mkG ((G.ball gd _).trans (hb.mono (G.ball gd _).size)), rfl⟩
    clear hb
    refine hKr.out _ _ ⟨gd, rfl⟩ (fun _ => ?_)
    clear hKr Kr
    refine cU (a' := ?_) ?_ ?_
    rotate_left
    ·show ax _ (ac 35) _ = _
     simp only [ax, aa, ah, ai, aN, aM]
     rfl
    refine bB (i := 9) (N := ac 3) (v := ?_) (a' := ?_) #[af, af, af, af, af, af, af, af, af, af] rfl rfl (by kernel_rfl) (fun _ _ _ h => h) (bg ⟨by rfl, ?_⟩) ?_ ?_
    rotate_left
    ·intro w'
     go_simp
     with_reducible rfl
    rotate_left
    ·simp only [ax, aa, ah, ai, aN, aM]
     rfl
    refine kH (by kernel_rfl) ?_
    go_wp2_with fail
    refine ⟨⟨k + 1, mkG (G.deep (g := g) gd), by go_num, ⟨m2, rfl, ?_⟩, rfl, by omega⟩, by simp [intOf]; omega⟩
    obtain ⟨e1, e2, e3, _⟩ := M.out
    have e4 : m2 = min (m1 + (aK x.f2 + aK x.f3)) 1099511627776 := by simpa using HM2.out
    rw [e3, H0.out, if_neg (by decide), if_pos rfl, e4, e2, e1]
    exact cap_step _ _ _
   ·rw [h0] at q0
    have H0 := I h0
    clear h0
    go_upto_region 5 with (fail)
    refine aH ?_
    intro gg
    go_wp2_with fail
    refine (cN (g := gg) (dV [m, 1] m1 M.out.2.2.2 (mF hmb.out.1 (by omega)) (by simp) (ac ⟨gg.W.heap.size, 0, ag⟩) 2 _ (gL _ [m, 1] 3 (by simp)) (by simp))).mono ?_
    rintro _ _ ⟨rfl, gg, rfl⟩
    obtain ⟨s1, hs1⟩ : ∃ r, r = min (bR x.f6) 1099511627776 := ⟨_, rfl⟩
    obtain ⟨s2, hs2⟩ : ∃ r, r = min (bR x.f7) 1099511627776 := ⟨_, rfl⟩
    obtain ⟨m2, hm2⟩ : ∃ r, r = min [m1, aK x.f3, s1, s2].sum 1099511627776 := ⟨_, rfl⟩
    have SB := I (show s1 <= 1099511627776 /\ s2 <= 1099511627776 from ⟨by rw [hs1]; exact Nat.min_le_right _ _, by rw [hs2]; exact Nat.min_le_right _ _⟩)
    have HM2 := I (ae hm2 (ae hs1 hs2))
    clear hm2 hs1 hs2
    go_upto_region 12 with (fail)
    refine fZ (n := 13) (S := fun w' => ∃ g' : G _, w' = g'.W) (ds := []) #[J, J, J, J, J, J, J, J, J, J, J, J, J] (by kernel_rfl) rfl rfl ⟨mkG (gg.2.drew), rfl⟩ (fun hHeld => ?_)
    obtain ⟨gd, hgd⟩ := hHeld
    rw [hgd]
    clear hgd
    refine bB (i := 0) (N := ac 38) (v := ?_) (a' := ?_) #[af, J, J, J, J, J, J, J, J, J, J, J, J] rfl rfl (by kernel_rfl) (fun _ _ _ h => h) (bg ⟨by rfl, ?_⟩) ?_ ?_
    rotate_left
    ·intro w'
     go_simp
     with_reducible rfl
    rotate_left
    ·simp only [ax, aa, ah, ai, aN, aM]
     rfl
    refine bB (i := 1) (N := ac 39) (v := ?_) (a' := ?_) #[af, af, J, J, J, J, J, J, J, J, J, J, J] rfl rfl (by kernel_rfl) (fun _ _ _ h => h) (bg ⟨by rfl, ?_⟩) ?_ ?_
    rotate_left
    ·intro w'
     go_simp
     with_reducible rfl
    rotate_left
    ·simp only [ax, aa, ah, ai, aN, aM]
     rfl
    refine bB (i := 4) (N := ac 42) (v := ?_) (a' := ?_) #[af, af, J, J, af, J, J, J, J, J, J, J, J] rfl rfl (by kernel_rfl) (fun _ _ _ h => h) (bg ⟨by rfl, ?_⟩) ?_ ?_
    rotate_left
    ·intro w'
     go_simp
     with_reducible rfl
    rotate_left
    ·simp only [ax, aa, ah, ai, aN, aM]
     rfl
    refine bB (i := 7) (N := ac 45) (v := ?_) (a' := ?_) #[af, af, J, J, af, J, J, af, J, J, J, J, J] rfl rfl (by kernel_rfl) (fun _ _ _ h => h) (bg ⟨by rfl, ?_⟩) ?_ ?_
    rotate_left
    ·intro w'
     go_simp
     with_reducible rfl
    rotate_left
    ·simp only [ax, aa, ah, ai, aN, aM]
     rfl
    refine dP (i := 2) (N := ac 40) (v := ?_) (a' := ?_) #[af, af, af, J, af, J, J, af, J, J, J, J, J] rfl rfl (by kernel_rfl) (fun _ _ _ h => h) (bg ⟨by rfl, ?_⟩) ⟨gd, rfl⟩ ?_ ?_
    rotate_left
    ·rintro w' ⟨g', rfl⟩
     go_simp
     with_reducible rfl
    rotate_left
    ·simp only [ax, aa, ah, ai, aN, aM]
     rfl
    refine dP (i := 5) (N := ac 43) (v := ?_) (a' := ?_) #[af, af, af, J, af, af, J, af, J, J, J, J, J] rfl rfl (by kernel_rfl) (fun _ _ _ h => h) (bg ⟨by rfl, ?_⟩) ⟨gd, rfl⟩ ?_ ?_
    rotate_left
    ·rintro w' ⟨g', rfl⟩
     go_simp
     with_reducible rfl
    rotate_left
    ·simp only [ax, aa, ah, ai, aN, aM]
     rfl
    refine dP (i := 8) (N := ac 46) (v := ?_) (a' := ?_) #[af, af, af, J, af, af, J, af, af, J, J, J, J] rfl rfl (by kernel_rfl) (fun _ _ _ h => h) (bg ⟨by rfl, ?_⟩) ⟨gd, rfl⟩ ?_ ?_
    rotate_left
    ·rintro w' ⟨g', rfl⟩
     go_simp
     with_reducible rfl
    rotate_left
    ·simp only [ax, aa, ah, ai, aN, aM]
     rfl
    refine kJ (i := 3) (N := ac 41) #[af, af, af, af, af, af, J, af, af, J, J, J, J] rfl rfl (by kernel_rfl) (by simp) (fun Kr hKr => ?_)
    refine j5 Tryz.func156 (by kernel_rfl) rfl #[.agg #[.int .i64 x.f3.f0, .int .u64 x.f3.f1, .string x.f3.f2, .slice A9 x.f3.f3.length c9]] (by rfl) rfl rfl (by (try simp only [cb, cm, cw]); first | done | rfl) ?_
    refine (weigh_v GD1.out.2.2.2.2.2 A9 c9 gd.W (Kd.aF K.out.2.2.2.1 (G.deep (g := g) gd)) K.out.2.2.1).mono ?_
    rintro _ w9 ⟨rfl, hb⟩
    refine ⟨_, rfl, ?_⟩
    obtain ⟨gd, rfl⟩ : ∃ g' : G _, w9 = g'.W := ⟨mkG (gd.below.trans (hb.mono gd.below.size)), rfl⟩
    clear hb
    refine hKr.out _ _ ⟨gd, rfl⟩ (fun _ => ?_)
    clear hKr Kr
    refine cU (a' := ?_) ?_ ?_
    rotate_left
    ·show ax _ (ac 41) _ = _
     simp only [ax, aa, ah, ai, aN, aM]
     rfl
    refine kJ (i := 6) (N := ac 44) #[af, af, af, af, af, af, af, af, af, J, J, J, J] rfl rfl (by kernel_rfl) (by simp) (fun Kr hKr => ?_)
    refine j5 Tryz.func114 (by kernel_rfl) rfl #[.slice A12 x.f6.length c12] (by rfl) rfl rfl (by (try simp only [cb, cm, cw]); first | done | rfl) ?_
    refine (lN IH1.out.1 HM2.out.2.1 A12 c12 gd.W (Kd.aF K.out.2.2.2.2.2.1 (G.deep (g := g) gd)) K.out.2.2.2.2.1).mono ?_
    rintro _ w9 ⟨rfl, hb⟩
    refine ⟨_, rfl, ?_⟩
    obtain ⟨gd, rfl⟩ : ∃ g' : G _, w9 = g'.W := ⟨mkG (gd.below.trans (hb.mono gd.below.size)), rfl⟩
    clear hb
    refine hKr.out _ _ ⟨gd, rfl⟩ (fun _ => ?_)
    clear hKr Kr
    refine cU (a' := ?_) ?_ ?_
    rotate_left
    ·show ax _ (ac 44) _ = _
     simp only [ax, aa, ah, ai, aN, aM]
     rfl
    refine kJ (i := 9) (N := ac 47) #[af, af, af, af, af, af, af, af, af, af, J, J, J] rfl rfl (by kernel_rfl) (by simp) (fun Kr hKr => ?_)
    refine j5 Tryz.func114 (by kernel_rfl) rfl #[.slice A13 x.f7.length c13] (by rfl) rfl rfl (by (try simp only [cb, cm, cw]); first | done | rfl) ?_
    refine (lN IH1.out.2 HM2.out.2.2 A13 c13 gd.W (Kd.aF K.out.2.2.2.2.2.2.2 (G.deep (g := g) gd)) K.out.2.2.2.2.2.2.1).mono ?_
    rintro _ w9 ⟨rfl, hb⟩
    refine ⟨_, rfl, ?_⟩
    obtain ⟨gd, rfl⟩ : ∃ g' : G _, w9 = g'.W := ⟨mkG (gd.below.trans (hb.mono gd.below.size)), rfl⟩
    clear hb
    refine hKr.out _ _ ⟨gd, rfl⟩ (fun _ => ?_)
    clear hKr Kr
    refine cU (a' := ?_) ?_ ?_
    rotate_left
    ·show ax _ (ac 47) _ = _
     simp only [ax, aa, ah, ai, aN, aM]
     rfl
    refine kJ (i := 10) (N := ac 48) #[af, af, af, af, af, af, af, af, af, af, af, J, J] rfl rfl (by kernel_rfl) (by simp) (fun Kr hKr => ?_)
    refine dZ (v := .slice (ac ⟨gd.W.heap.size, 0, ag⟩) 4 4) (w1 := gd.W.alloc (.cells #[.int .i64 (m1 : Int), .int .i64 ((aK x.f3 : Nat) : Int), .int .i64 ((s1 : Nat) : Int), .int .i64 ((s2 : Nat) : Int)] 3)) (by rfl) (by first | (go_simp; done) | (go_simp; rfl)) ?_
    refine hKr.out _ _ ⟨mkG (G.ball gd _), rfl⟩ (fun _ => ?_)
    clear hKr Kr
    refine cU (a' := ?_) ?_ ?_
    rotate_left
    ·show ax _ (ac 48) _ = _
     simp only [ax, aa, ah, ai, aN, aM]
     rfl
    refine kJ (i := 11) (N := ac 49) #[af, af, af, af, af, af, af, af, af, af, af, af, J] rfl rfl (by kernel_rfl) (by simp) (fun Kr hKr => ?_)
    refine j5 Tryz.func155 (by kernel_rfl) rfl #[.slice (ac ⟨gd.W.heap.size, 0, ag⟩) 4 4] (by rfl) rfl rfl (by (try simp only [cb, cm, cw]); first | done | rfl) ?_
    refine (dV [m1, aK x.f3, s1, s2] m2 HM2.out.1 (le_of4 hmb.out.2 GD1.out.2.2.2.2.2 SB.out.1 SB.out.2) (by simp) (ac ⟨gd.W.heap.size, 0, ag⟩) 4 _ (gL _ [m1, aK x.f3, s1, s2] 3 (by simp)) (by simp)).mono ?_
    rintro _ w9 ⟨rfl, hb⟩
    refine ⟨_, rfl, ?_⟩
    obtain ⟨gd, rfl⟩ : ∃ g' : G _, w9 = g'.W := ⟨mkG ((G.ball gd _).trans (hb.mono (G.ball gd _).size)), rfl⟩
    clear hb
    refine hKr.out _ _ ⟨gd, rfl⟩ (fun _ => ?_)
    clear hKr Kr
    refine cU (a' := ?_) ?_ ?_
    rotate_left
    ·show ax _ (ac 49) _ = _
     simp only [ax, aa, ah, ai, aN, aM]
     rfl
    refine bB (i := 12) (N := ac 3) (v := ?_) (a' := ?_) #[af, af, af, af, af, af, af, af, af, af, af, af, af] rfl rfl (by kernel_rfl) (fun _ _ _ h => h) (bg ⟨by rfl, ?_⟩) ?_ ?_
    rotate_left
    ·intro w'
     go_simp
     with_reducible rfl
    rotate_left
    ·simp only [ax, aa, ah, ai, aN, aM]
     rfl
    refine kH (by kernel_rfl) ?_
    go_wp2_with fail
    refine ⟨⟨k + 1, mkG (G.deep (g := g) gd), by go_num, ⟨m2, rfl, ?_⟩, rfl, by omega⟩, by simp [intOf]; omega⟩
    obtain ⟨e1, e2, e3, _⟩ := M.out
    have e4 : m2 = min (m1 + (aK x.f3 + (s1 + s2))) 1099511627776 := by simpa using HM2.out.1
    rw [e3, H0.out, if_neg (by decide), if_neg (by decide), if_pos rfl, e4, e2, e1, HM2.out.2.1, HM2.out.2.2]
    exact cap_if _ _ _ _ _
   ·rw [h0] at q0
    have H0 := I h0
    clear h0
    go_upto_region 5 with (fail)
    refine aH ?_
    intro gg
    go_wp2_with fail
    refine (cN (g := gg) (dV [m, 1] m1 M.out.2.2.2 (mF hmb.out.1 (by omega)) (by simp) (ac ⟨gg.W.heap.size, 0, ag⟩) 2 _ (gL _ [m, 1] 3 (by simp)) (by simp))).mono ?_
    rintro _ _ ⟨rfl, gg, rfl⟩
    rcases cu x.f4 x.f5 with hlo | hlo
    ·obtain ⟨s1, hs1⟩ : ∃ r, r = min (bR x.f6) 1099511627776 := ⟨_, rfl⟩
     obtain ⟨q, hq⟩ : ∃ r, r = min [1, s1].sum 1099511627776 := ⟨_, rfl⟩
     obtain ⟨nn, hnn⟩ : ∃ n, n = (x.f5 - x.f4).toNat := ⟨_, rfl⟩
     obtain ⟨tt, htt⟩ : ∃ r, r = min (nn * q) 1099511627776 := ⟨_, rfl⟩
     obtain ⟨m2, hm2⟩ : ∃ r, r = min [m1, tt].sum 1099511627776 := ⟨_, rfl⟩
     have SB := I (show s1 <= 1099511627776 /\ q <= 1099511627776 from ⟨by rw [hs1]; exact Nat.min_le_right _ _, by rw [hq]; exact Nat.min_le_right _ _⟩)
     have hz : IntKind.u64.wrap (x.f5 - x.f4) = (nn : Int) := by have := GD1.out; rw [u64_in (by omega) (by omega), hnn]; omega
     have hn : nn < 18446744073709551616 := by have := GD1.out; omega
     have HM2 := I (ae hm2 (ae hs1 (ae hq (ae htt (ae hz hn)))))
     have HNN := I hnn
     clear hm2 hs1 hq htt hz hn hnn
     have hlo' : x.f5 > x.f4 := hlo
     go_upto_region 15 with (fail)
     refine fZ (n := 15) (S := fun w' => ∃ g' : G _, w' = g'.W) (ds := []) #[J, J, J, J, J, J, J, J, J, J, J, J, J, J, J] (by kernel_rfl) rfl rfl ⟨mkG (gg.2.drew), rfl⟩ (fun hHeld => ?_)
     obtain ⟨gd, hgd⟩ := hHeld
     rw [hgd]
     clear hgd
     refine bB (i := 0) (N := ac 57) (v := ?_) (a' := ?_) #[af, J, J, J, J, J, J, J, J, J, J, J, J, J, J] rfl rfl (by kernel_rfl) (fun _ _ _ h => h) (bg ⟨by rfl, ?_⟩) ?_ ?_
     rotate_left
     ·intro w'
      go_simp
      with_reducible rfl
     rotate_left
     ·simp only [ax, aa, ah, ai, aN, aM]
      rfl
     refine bB (i := 1) (N := ac 58) (v := ?_) (a' := ?_) #[af, af, J, J, J, J, J, J, J, J, J, J, J, J, J] rfl rfl (by kernel_rfl) (fun _ _ _ h => h) (bg ⟨by rfl, ?_⟩) ?_ ?_
     rotate_left
     ·intro w'
      go_simp
      with_reducible rfl
     rotate_left
     ·simp only [ax, aa, ah, ai, aN, aM]
      rfl
     refine bB (i := 3) (N := ac 60) (v := ?_) (a' := ?_) #[af, af, J, af, J, J, J, J, J, J, J, J, J, J, J] rfl rfl (by kernel_rfl) (fun _ _ _ h => h) (bg ⟨by rfl, ?_⟩) ?_ ?_
     rotate_left
     ·intro w'
      go_simp
      with_reducible rfl
     rotate_left
     ·simp only [ax, aa, ah, ai, aN, aM]
      rfl
     refine bB (i := 6) (N := ac 63) (v := ?_) (a' := ?_) #[af, af, J, af, J, J, af, J, J, J, J, J, J, J, J] rfl rfl (by kernel_rfl) (fun _ _ _ h => h) (bg ⟨by rfl, ?_⟩) ?_ ?_
     rotate_left
     ·intro w'
      go_simp
      with_reducible rfl
     rotate_left
     ·simp only [ax, aa, ah, ai, aN, aM]
      rfl
     refine dP (i := 2) (N := ac 59) (v := ?_) (a' := ?_) #[af, af, af, af, J, J, af, J, J, J, J, J, J, J, J] rfl rfl (by kernel_rfl) (fun _ _ _ h => h) (bg ⟨by rfl, ?_⟩) ⟨gd, rfl⟩ ?_ ?_
     rotate_left
     ·rintro w' ⟨g', rfl⟩
      go_simp
      with_reducible rfl
     rotate_left
     ·simp only [ax, aa, ah, ai, aN, aM]
      rfl
     refine dP (i := 4) (N := ac 61) (v := ?_) (a' := ?_) #[af, af, af, af, af, J, af, J, J, J, J, J, J, J, J] rfl rfl (by kernel_rfl) (fun _ _ _ h => h) (bg ⟨by rfl, ?_⟩) ⟨gd, rfl⟩ ?_ ?_
     rotate_left
     ·rintro w' ⟨g', rfl⟩
      go_simp
      with_reducible rfl
     rotate_left
     ·simp only [ax, aa, ah, ai, aN, aM]
      rfl
     refine bB (i := 5) (N := ac 62) (v := ?_) (a' := ?_) #[af, af, af, af, af, af, af, J, J, J, J, J, J, J, J] rfl rfl (by kernel_rfl) (fun _ _ _ h => h) (bg ⟨by rfl, ?_⟩) ?_ ?_
     rotate_left
     ·intro w'
      go_simp
      with_reducible rfl
     rotate_left
     ·simp only [ax, aa, ah, ai, aN, aM]
      rfl
     refine dP (i := 7) (N := ac 64) (v := ?_) (a' := ?_) #[af, af, af, af, af, af, af, af, J, J, J, J, J, J, J] rfl rfl (by kernel_rfl) (fun _ _ _ h => h) (bg ⟨by rfl, ?_⟩) ⟨gd, rfl⟩ ?_ ?_
     rotate_left
     ·rintro w' ⟨g', rfl⟩
      go_simp
      with_reducible rfl
     rotate_left
     ·simp only [ax, aa, ah, ai, aN, aM]
      rfl
     refine kJ (i := 8) (N := ac 65) #[af, af, af, af, af, af, af, af, af, J, J, J, J, J, J] rfl rfl (by kernel_rfl) (by simp) (fun Kr hKr => ?_)
     refine j5 Tryz.func114 (by kernel_rfl) rfl #[.slice A12 x.f6.length c12] (by rfl) rfl rfl (by (try simp only [cb, cm, cw]); first | done | rfl) ?_
     refine (lN IH1.out.1 HM2.out.2.1 A12 c12 gd.W (Kd.aF K.out.2.2.2.2.2.1 (G.deep (g := g) gd)) K.out.2.2.2.2.1).mono ?_
     rintro _ w9 ⟨rfl, hb⟩
     refine ⟨_, rfl, ?_⟩
     obtain ⟨gd, rfl⟩ : ∃ g' : G _, w9 = g'.W := ⟨mkG (gd.below.trans (hb.mono gd.below.size)), rfl⟩
     clear hb
     refine hKr.out _ _ ⟨gd, rfl⟩ (fun _ => ?_)
     clear hKr Kr
     refine cU (a' := ?_) ?_ ?_
     rotate_left
     ·show ax _ (ac 65) _ = _
      simp only [ax, aa, ah, ai, aN, aM]
      rfl
     refine kJ (i := 9) (N := ac 66) #[af, af, af, af, af, af, af, af, af, af, J, J, J, J, J] rfl rfl (by kernel_rfl) (by simp) (fun Kr hKr => ?_)
     refine dZ (v := .slice (ac ⟨gd.W.heap.size, 0, ag⟩) 2 2) (w1 := gd.W.alloc (.cells #[.int .i64 1, .int .i64 ((s1 : Nat) : Int)] 3)) (by rfl) (by first | (go_simp; done) | (go_simp; rfl)) ?_
     refine hKr.out _ _ ⟨mkG (G.ball gd _), rfl⟩ (fun _ => ?_)
     clear hKr Kr
     refine cU (a' := ?_) ?_ ?_
     rotate_left
     ·show ax _ (ac 66) _ = _
      simp only [ax, aa, ah, ai, aN, aM]
      rfl
     refine kJ (i := 10) (N := ac 67) #[af, af, af, af, af, af, af, af, af, af, af, J, J, J, J] rfl rfl (by kernel_rfl) (by simp) (fun Kr hKr => ?_)
     refine j5 Tryz.func155 (by kernel_rfl) rfl #[.slice (ac ⟨gd.W.heap.size, 0, ag⟩) 2 2] (by rfl) rfl rfl (by (try simp only [cb, cm, cw]); first | done | rfl) ?_
     refine (dV [1, s1] q HM2.out.2.2.1 (mF (by omega) SB.out.1) (by simp) (ac ⟨gd.W.heap.size, 0, ag⟩) 2 _ (gL _ [1, s1] 3 (by simp)) (by simp)).mono ?_
     rintro _ w9 ⟨rfl, hb⟩
     refine ⟨_, rfl, ?_⟩
     obtain ⟨gd, rfl⟩ : ∃ g' : G _, w9 = g'.W := ⟨mkG ((G.ball gd _).trans (hb.mono (G.ball gd _).size)), rfl⟩
     clear hb
     refine hKr.out _ _ ⟨gd, rfl⟩ (fun _ => ?_)
     clear hKr Kr
     refine cU (a' := ?_) ?_ ?_
     rotate_left
     ·show ax _ (ac 67) _ = _
      simp only [ax, aa, ah, ai, aN, aM]
      rfl
     refine kJ (i := 11) (N := ac 68) #[af, af, af, af, af, af, af, af, af, af, af, af, J, J, J] rfl rfl (by kernel_rfl) (by simp) (fun Kr hKr => ?_)
     refine j5 Tryz.func157 (by kernel_rfl) rfl #[.int .u64 (IntKind.u64.wrap (x.f5 - x.f4)), .int .i64 ((q : Nat) : Int)] (by rfl) rfl rfl (by (try simp only [cb, cm, cw]); first | done | rfl) ?_
     refine (timesZ_calls (IntKind.u64.wrap (x.f5 - x.f4)) nn q tt HM2.out.2.2.2.2.1 HM2.out.2.2.2.2.2 SB.out.2 HM2.out.2.2.2.1 gd.W).mono ?_
     rintro _ w9 ⟨rfl, hb⟩
     refine ⟨_, rfl, ?_⟩
     obtain ⟨gd, rfl⟩ : ∃ g' : G _, w9 = g'.W := ⟨mkG (gd.below.trans (hb.mono gd.below.size)), rfl⟩
     clear hb
     refine hKr.out _ _ ⟨gd, rfl⟩ (fun _ => ?_)
     clear hKr Kr
     refine cU (a' := ?_) ?_ ?_
     rotate_left
     ·show ax _ (ac 68) _ = _
      simp only [ax, aa, ah, ai, aN, aM]
      rfl
     refine kJ (i := 12) (N := ac 69) #[af, af, af, af, af, af, af, af, af, af, af, af, af, J, J] rfl rfl (by kernel_rfl) (by simp) (fun Kr hKr => ?_)
     refine dZ (v := .slice (ac ⟨gd.W.heap.size, 0, ag⟩) 2 2) (w1 := gd.W.alloc (.cells #[.int .i64 (m1 : Int), .int .i64 ((tt : Nat) : Int)] 3)) (by rfl) (by first | (go_simp; done) | (go_simp; rfl)) ?_
     refine hKr.out _ _ ⟨mkG (G.ball gd _), rfl⟩ (fun _ => ?_)
     clear hKr Kr
     refine cU (a' := ?_) ?_ ?_
     rotate_left
     ·show ax _ (ac 69) _ = _
      simp only [ax, aa, ah, ai, aN, aM]
      rfl
     refine kJ (i := 13) (N := ac 70) #[af, af, af, af, af, af, af, af, af, af, af, af, af, af, J] rfl rfl (by kernel_rfl) (by simp) (fun Kr hKr => ?_)
     refine j5 Tryz.func155 (by kernel_rfl) rfl #[.slice (ac ⟨gd.W.heap.size, 0, ag⟩) 2 2] (by rfl) rfl rfl (by (try simp only [cb, cm, cw]); first | done | rfl) ?_
     refine (dV [m1, tt] m2 HM2.out.1 (mF hmb.out.2 (by rw [HM2.out.2.2.2.1]; exact Nat.min_le_right _ _)) (by simp) (ac ⟨gd.W.heap.size, 0, ag⟩) 2 _ (gL _ [m1, tt] 3 (by simp)) (by simp)).mono ?_
     rintro _ w9 ⟨rfl, hb⟩
     refine ⟨_, rfl, ?_⟩
     obtain ⟨gd, rfl⟩ : ∃ g' : G _, w9 = g'.W := ⟨mkG ((G.ball gd _).trans (hb.mono (G.ball gd _).size)), rfl⟩
     clear hb
     refine hKr.out _ _ ⟨gd, rfl⟩ (fun _ => ?_)
     clear hKr Kr
     refine cU (a' := ?_) ?_ ?_
     rotate_left
     ·show ax _ (ac 70) _ = _
      simp only [ax, aa, ah, ai, aN, aM]
      rfl
     refine bB (i := 14) (N := ac 3) (v := ?_) (a' := ?_) #[af, af, af, af, af, af, af, af, af, af, af, af, af, af, af] rfl rfl (by kernel_rfl) (fun _ _ _ h => h) (bg ⟨by rfl, ?_⟩) ?_ ?_
     rotate_left
     ·intro w'
      go_simp
      with_reducible rfl
     rotate_left
     ·simp only [ax, aa, ah, ai, aN, aM]
      rfl
     refine kH (by kernel_rfl) ?_
     go_wp2_with fail
     refine ⟨⟨k + 1, mkG (G.deep (g := g) gd), by go_num, ⟨m2, rfl, ?_⟩, rfl, by omega⟩, by simp [intOf]; omega⟩
     obtain ⟨e1, e2, e3, _⟩ := M.out
     have e4 : m2 = min (m1 + tt) 1099511627776 := by simpa using HM2.out.1
     have e5 : q = min (1 + s1) 1099511627776 := by simpa using HM2.out.2.2.1
     rw [e3, H0.out, if_neg (by decide), if_neg (by decide), if_neg (by decide), if_pos rfl, e4, e2, e1, HM2.out.2.2.2.1, e5, HM2.out.2.1, HNN.out]
     exact cap_for _ _ _ _ (by decide)
    ·have hlo' : ¬ x.f5 > x.f4 := by omega
     have HLO := I hlo
     clear hlo
     go_wp2_with fail
     refine ⟨⟨k + 1, mkG (G.deep (g := g) gg), by go_num, ⟨m1, rfl, ?_⟩, rfl, by omega⟩, by simp [intOf]; omega⟩
     obtain ⟨e1, e2, e3, _⟩ := M.out
     rw [e3, H0.out, if_neg (by decide), if_neg (by decide), if_neg (by decide), if_pos rfl, e2, e1, show (x.f5 - x.f4).toNat = 0 by have := HLO.out; omega, Nat.zero_mul]
     exact cap_one _ _
   ·have b1 : (x.f0 == 1) = J := by simpa using h1
    have b2 : (x.f0 == 2) = J := by simpa using h2
    have b3 : (x.f0 == 3) = J := by simpa using h3
    have b4 : (x.f0 == 4) = J := by simpa using h4
    have HN := I (ae h1 (ae h2 (ae h3 h4)))
    clear h1 h2 h3 h4
    go_upto_region 5 with (fail)
    refine aH ?_
    intro gg
    go_wp2_with fail
    refine (cN (g := gg) (dV [m, 1] m1 M.out.2.2.2 (mF hmb.out.1 (by omega)) (by simp) (ac ⟨gg.W.heap.size, 0, ag⟩) 2 _ (gL _ [m, 1] 3 (by simp)) (by simp))).mono ?_
    rintro _ _ ⟨rfl, gg, rfl⟩
    go_wp2_with fail
    refine ⟨⟨k + 1, mkG (G.deep (g := g) gg), by go_num, ⟨m1, rfl, ?_⟩, rfl, by omega⟩, by simp [intOf]; omega⟩
    obtain ⟨e1, e2, e3, _⟩ := M.out
    rw [e3, if_neg HN.out.1, if_neg HN.out.2.1, if_neg HN.out.2.2.1, if_neg HN.out.2.2.2, e2, e1]
    exact cap_one _ _
  ·go_wp2_with fail
   go_ret
   refine ⟨?_, g.below⟩
   rw [hm, show k = l.length by omega, di]
   rfl
end
section
variable (nm : ByteArray) (wd ln : Int) (ds : List S70) (bd : List S119) (A3 : Option Addr) (c3 : Nat) (A4 : Option Addr) (c4 : Nat)
section
attribute [local go_sem] G.cell
theorem rK : ∀ (n : Nat) (l : List S119), cd l <= n -> Ot.kG l -> Ot.bW l <= 1048576 -> SizeC 114 1099511627776 l := by
 intro n
 induction n with
 | zero => intro l h; cases l <;> simp at h <;> omega
 | succ n ih =>
   intro l h hg hb
   refine size_walk l (fun x hx => ?_) fun x hx => ?_
   ·have h1 := (Ot.cO l).1 hg x hx
    have h2 := gG hx
    have h3 := bH x
    have h4 := aS x.f2
    have h5 := aS x.f3
    obtain ⟨a, b, c, d, e, f, g, k⟩ := x
    rw [Ot.jE] at h1
    have h6 := okU_b h1.2.2.2.2.1
    have h7 := okU_b h1.2.2.2.2.2.1
    exact ⟨h6.1, h7.1, h6.2, h7.2, by omega, by omega⟩
   ·have h1 := eu hx
    have h2 := (Ot.cO l).1 hg x hx
    have h3 := gG hx
    have h4 := bH x
    obtain ⟨a, b, c, d, e, f, g, k⟩ := x
    rw [Ot.jE] at h2
    simp only [S119.mk.sizeOf_spec] at h1
    exact ⟨ih _ (by show cd g <= n; omega) h2.2.2.2.2.2.2.2.2.1 (by show Ot.bW g <= 1048576; simp only at h4; omega), ih _ (by show cd k <= n; omega) h2.2.2.2.2.2.2.2.2.2 (by show Ot.bW k <= 1048576; simp only at h4; omega)⟩
set_option maxRecDepth 100000 in
theorem c71_calls (W : World) (hk : dC.C W A4 bd.length bd) (hl4 : bd.length <= c4) (hg : Ot.kG bd) (hbk : Ot.bW bd <= 1048576) (b : Bool) (hb : b = decide (bR bd <= 65536)) :
 Calls ak 201 #[.agg #[.string nm, .int .i64 wd, .int .i64 ln, .slice A3 ds.length c3, .slice A4 bd.length c4]] W fun e w' => e = .returned (.bool b) /\ Below W.heap.size W w' := by
 have gout := @gA W
 have HR := I hb
 clear hb
 have HK := I (ae hk (ae hg hbk))
 clear hk hg hbk
 obtain ⟨m, hm⟩ : ∃ m, m = min (bR bd) 1099511627776 := ⟨_, rfl⟩
 have HM := I hm
 clear hm
 go_enter Tryz.func201, Tryz.ntmps201
 go_upto_region 1 with (fail)
 refine aH ?_
 intro gg
 go_wp2_with fail
 refine (aD (g := gg) (lN (rK _ bd (ar _) HK.out.2.1 HK.out.2.2) HM.out A4 c4 gg.W (Kd.aF HK.out.1 (gout gg)) hl4)).mono ?_
 rintro _ _ ⟨rfl, gg, rfl⟩
 by_cases h : bR bd <= 65536
 ·have h' : (m : Int) <= 65536 := by have := HM.out; omega
  have H := I h
  clear h
  go_wp2_with fail
  go_ret
  exact ⟨aC (by rw [HR.out, decide_eq_true H.out]), gout _⟩
 ·have h' : ¬ (m : Int) <= 65536 := by have := HM.out; omega
  have H := I h
  clear h
  go_wp2_with fail
  go_ret
  exact ⟨aC (by rw [HR.out, decide_eq_false (show ¬ bR bd <= 65536 by have := H.out; omega)]; first | rfl | exact decide_eq_false (by have := HM.out; have := H.out; omega)), gout _⟩
set_option maxRecDepth 100000 in
theorem c52_calls (W : World) (hd : k70.C W A3 ds.length ds) (i : Nat) (hi : i < ds.length) (b : Bool) (hb : b = bS ds i) :
 Calls ak 182 #[.agg #[.string nm, .int .i64 wd, .int .i64 ln, .slice A3 ds.length c3, .slice A4 bd.length c4], .int .i64 (i : Int)] W fun e w' => e = .returned (.bool b) /\ Below W.heap.size W w' := by
 have gout := @gA W
 have HR := I hb
 clear hb
 have hlm := hd.2.1
 obtain ⟨adr, A9d, c9d, e1, q0, q1, q2, q3, l9, g9⟩ := dN hd (i : Int) (bc _) (by omega)
 cases e1
 rw [av] at q0 q1 q2 q3
 have hi1 : (i : Int) < (ds.length : Int) := by omega
 clear hd
 go_enter Tryz.func182, Tryz.ntmps182
 go_upto_region 1 with (fail)
 refine aH ?_
 intro gg
 have r0 : ∀ g : G (gw0 gg), g.W.cell? (adr.add (i * 4)) = ac (.int .i64 (aG ds (i : Int)).f0) := fun g => aE (gout g) q0
 have r2 : ∀ g : G (gw0 gg), g.W.cell? ⟨(adr.add (i * 4)).block, (adr.add (i * 4)).off + 2, ag⟩ = ac (.int .i64 (aG ds (i : Int)).f2) := fun g => aE (gout g) q2
 have r3 : ∀ g : G (gw0 gg), g.W.cell? ⟨(adr.add (i * 4)).block, (adr.add (i * 4)).off + 3, ag⟩ = ac (.slice A9d (aG ds (i : Int)).f3.length c9d) := fun g => aE (gout g) q3
 clear q0 q1 q2 q3
 by_cases z : (aG ds (i : Int)).f2 = 0
 ·have Z := I z
  go_wp2_with fail
  go_ret
  exact ⟨aC (by rw [HR.out]; simp [bS, Z.out]), gout _⟩
 ·have bz := bn z
  have Z := I z
  clear z
  go_wp2_with fail
  refine (aD (g := gg) (kM (aG ds (i : Int)).f2 256 gg.W (by decide) (cZ (aG ds (i : Int)).f2) (by
   by_cases h : (aG ds (i : Int)).f2 <= 256
   ·rw [decide_eq_true h, jy]
   ·rw [decide_eq_false h, jb, pow_out (.inr (by omega))]))).mono ?_
  rintro _ _ ⟨rfl, gg, rfl⟩
  go_wp2_with fail
  go_ret
  exact ⟨aC (by rw [HR.out]; simp [bS, Z.out]), gout _⟩
set_option maxRecDepth 100000 in
theorem c53_calls (W : World) (hd : k70.C W A3 ds.length ds) (i : Nat) (hi : i < ds.length) (b : Bool) (hb : b = bD ds i) :
 Calls ak 183 #[.agg #[.string nm, .int .i64 wd, .int .i64 ln, .slice A3 ds.length c3, .slice A4 bd.length c4], .int .i64 (i : Int)] W fun e w' => e = .returned (.bool b) /\ Below W.heap.size W w' := by
 have gout := @gA W
 have HR := I hb
 clear hb
 have hlm := hd.2.1
 obtain ⟨adr, A9d, c9d, e1, q0, q1, q2, q3, l9, g9⟩ := dN hd (i : Int) (bc _) (by omega)
 cases e1
 rw [av] at q0 q1 q2 q3
 have hi1 : (i : Int) < (ds.length : Int) := by omega
 clear hd
 go_enter Tryz.func183, Tryz.ntmps183
 go_upto_region 1 with (fail)
 refine aH ?_
 intro gg
 have r0 : ∀ g : G (gw0 gg), g.W.cell? (adr.add (i * 4)) = ac (.int .i64 (aG ds (i : Int)).f0) := fun g => aE (gout g) q0
 have r2 : ∀ g : G (gw0 gg), g.W.cell? ⟨(adr.add (i * 4)).block, (adr.add (i * 4)).off + 2, ag⟩ = ac (.int .i64 (aG ds (i : Int)).f2) := fun g => aE (gout g) q2
 have r3 : ∀ g : G (gw0 gg), g.W.cell? ⟨(adr.add (i * 4)).block, (adr.add (i * 4)).off + 3, ag⟩ = ac (.slice A9d (aG ds (i : Int)).f3.length c9d) := fun g => aE (gout g) q3
 clear q0 q1 q2 q3
 by_cases z : (aG ds (i : Int)).f0 = 3
 ·have Z := I z
  have bz : ((aG ds (i : Int)).f0 == 3) = af := by simp [z]
  clear z
  by_cases y : ((aG ds (i : Int)).f3.length : Int) = (aG ds (i : Int)).f2
  ·have Y := I y
   have by' : (((aG ds (i : Int)).f3.length : Int) != (aG ds (i : Int)).f2) = J := by simpa using y
   clear y
   refine aP (g := gg) (by kernel_rfl) (by kernel_rfl) ?_
   repeat (go_big_quiet_step (fail))
   refine wpQuiet_nil ?_
   rintro _ ⟨gg, rfl⟩
   go_wp2_with fail
   go_ret
   exact ⟨aC (by rw [HR.out]; simp [bD, Y.out]), gout _⟩
  ·have Y := I y
   have by' := bn y
   clear y
   refine aP (g := gg) (by kernel_rfl) (by kernel_rfl) ?_
   repeat (go_big_quiet_step (fail))
   refine wpQuiet_nil ?_
   rintro _ ⟨gg, rfl⟩
   go_wp2_with fail
   go_ret
   exact ⟨aC (by rw [HR.out]; simp [bD, Z.out, Y.out]), gout _⟩
 ·have Z := I z
  have bz := bf z
  clear z
  refine aP (g := gg) (by kernel_rfl) (by kernel_rfl) ?_
  repeat (go_big_quiet_step (fail))
  refine wpQuiet_nil ?_
  rintro _ ⟨gg, rfl⟩
  go_wp2_with fail
  go_ret
  exact ⟨aC (by rw [HR.out]; simp [bD, Z.out]), gout _⟩
end
end
section
variable (nm : ByteArray) (wd ln : Int) (ds : List S70) (bd : List S119) (A3 : Option Addr) (c3 : Nat) (A4 : Option Addr) (c4 : Nat)
section
attribute [local go_sem] G.cell
attribute [local go_sem] iX gY kS j9 gQ gO iV iZ
set_option maxRecDepth 100000 in
theorem inputs_calls (W : World) (hd : k70.C W A3 ds.length ds) (hdl : ds.length <= 1048576) (hw : ∀ d ∈ ds, d.f2 = 0 \/ cZ d.f2 = af) :
 Calls ak 189 #[.agg #[.string nm, .int .i64 wd, .int .i64 ln, .slice A3 ds.length c3, .slice A4 bd.length c4]] W fun e w' => e = .returned (.int .i64 (dB ds)) /\ Below W.heap.size W w' := by
 have gout := @gA W
 have HD := I hd
 have HW := I hw
 have HL := I hdl
 have hlm := hd.2.1
 clear hd hw hdl
 go_enter Tryz.func189, Tryz.ntmps189
 go_upto_region 2 with (fail)
 refine aH ?_
 intro gg
 have goutW : ∀ (g : G (gw0 gg)), Below W.heap.size W g.W := fun g => gout g
 go_wp2_with fail
 go_loopw [9, 3] (fun i n X => ∃ (k : Nat) (m : Int) (g : G (gw0 gg)), i = .int .i64 k /\ n = .int .i64 m /\ X = g.W /\ k <= ds.length /\ Aside0 (m = dB (ds.take k) /\ 0 <= m /\ m <= 256 * (k : Int))) (fun i _ _ => ds.length - (intOf i).toNat)
 case atStart => exact ⟨0, 0, gg, rfl, rfl, rfl, bi _, ⟨by simp [dB], by omega, by omega⟩⟩
 case round =>
  obtain ⟨k, m, gx, rfl, rfl, rfl, hk, HK⟩ := hrel
  by_cases hlt : k < ds.length
  ·obtain ⟨adr, A9d, c9d, e1, q0, q1, q2, q3, l9, g9⟩ := dN HD.out (k : Int) (bc _) (by omega)
   cases e1
   rw [av] at q0 q1 q2 q3
   replace q0 := aE (goutW gx) q0
   replace q1 := aE (goutW gx) q1
   replace q2 := aE (goutW gx) q2
   replace q3 := aE (goutW gx) q3
   clear l9 g9
   have hi1 : (k : Int) < (ds.length : Int) := by omega
   have T := I (congrArg dB (pS hlt))
   have WL := I (ae (words_le (HW.out _ (dO hlt))) (HW.out _ (dO hlt)))
   go_upto_region 5 with (fail)
   refine aH ?_
   intro g2
   have goutX : ∀ (g : G (gw0 g2)), Below (gw0 gg).heap.size (gw0 gg) g.W := fun g => (gx.below.alloc gx.below.size _).trans (g.below.mono (bh gx.below.size (by simp [gw0])))
   have KS := I (show ∀ z, z = dB (ds.take k) + (if isIn (aG ds (k : Int)) = af then cK (aG ds (k : Int)) else 0) -> z = dB (ds.take (k + 1)) from fun z hz => by have h := T.out; rw [kY] at h; rw [h, hz])
   have HV := I (show wrap64 (m + if (aG ds (k : Int)).f2 < 1 then 1 else (aG ds (k : Int)).f2) = m + cK (aG ds (k : Int)) by
    have h1 := WL.out.1
    have h2 := WL.out.2
    have h3 := HK.out
    have h4 := HL.out
    have e : (if (aG ds (k : Int)).f2 < 1 then 1 else (aG ds (k : Int)).f2) = cK (aG ds (k : Int)) := by
     unfold cK
     rcases h2 with h2 | h2
     ·rw [h2]; rfl
     ·have h5 := qW h2
      rw [if_neg (by omega), if_neg (by omega)]
    rw [e]
    exact jD (by omega) (by omega))
   by_cases f1 : (aG ds (k : Int)).f0 = 1
   ·have b1 : ((aG ds (k : Int)).f0 == 1) = af := by simp [f1]
    have FF := I f1
    clear f1
    go_wp2_with fail
    refine ⟨⟨k + 1, m + cK (aG ds (k : Int)), mkG (goutX g2), by go_num, by rw [HV.out], rfl, by omega, ⟨KS.out _ (by rw [HK.out.1, if_pos (by simp [isIn, FF.out])]), by have h1 := HK.out; have h2 := WL.out.1; omega, by have h1 := HK.out; have h2 := WL.out.1; omega⟩⟩, by simp [intOf]; omega⟩
   ·have b1 := bf f1
    by_cases f2 : (aG ds (k : Int)).f0 = 2
    ·have b2 : ((aG ds (k : Int)).f0 == 2) = af := by simp [f2]
     have FF := I f2
     clear f1 f2
     go_wp2_with fail
     refine ⟨⟨k + 1, m + cK (aG ds (k : Int)), mkG (goutX g2), by go_num, by rw [HV.out], rfl, by omega, ⟨KS.out _ (by rw [HK.out.1, if_pos (by simp [isIn, FF.out])]), by have h1 := HK.out; have h2 := WL.out.1; omega, by have h1 := HK.out; have h2 := WL.out.1; omega⟩⟩, by simp [intOf]; omega⟩
    ·have b2 := bf f2
     have FF := I (ae f1 f2)
     clear f1 f2
     go_wp2_with fail
     refine ⟨⟨k + 1, m, mkG (goutX g2), by go_num, rfl, rfl, by omega, ⟨KS.out _ (by rw [HK.out.1, if_neg (by simp [isIn, FF.out.1, FF.out.2])]; simp), by have h1 := HK.out; omega, by have h1 := HK.out; omega⟩⟩, by simp [intOf]; omega⟩
  ·have hi1 : ¬ (k : Int) < (ds.length : Int) := by omega
   have M9 := I (show m = dB ds by have h := HK.out.1; rw [show k = ds.length by omega, di] at h; exact h)
   go_wp2_with fail
   go_ret
   exact ⟨by rw [<- M9.out]; rfl, goutW _⟩
set_option maxRecDepth 100000 in
theorem c58_calls (W : World) (hd : k70.C W A3 ds.length ds) (hdl : ds.length <= 1048576) (hw : ∀ d ∈ ds, d.f2 = 0 \/ cZ d.f2 = af) (b : Bool) (hb : b = decide (dB ds <= 4096)) :
 Calls ak 188 #[.agg #[.string nm, .int .i64 wd, .int .i64 ln, .slice A3 ds.length c3, .slice A4 bd.length c4]] W fun e w' => e = .returned (.bool b) /\ Below W.heap.size W w' := by
 have gout := @gA W
 have HR := I hb
 have HD := I (ae hd (ae hdl hw))
 clear hb hd hdl hw
 go_enter Tryz.func188, Tryz.ntmps188
 go_upto_region 1 with (fail)
 refine aH ?_
 intro gg
 go_wp2_with fail
 refine (aD (g := gg) (inputs_calls nm wd ln ds bd A3 c3 A4 c4 gg.W (Kd.aF HD.out.1 (gout gg)) HD.out.2.1 HD.out.2.2)).mono ?_
 rintro _ _ ⟨rfl, gg, rfl⟩
 go_wp2_with fail
 go_ret
 exact ⟨aC (by rw [HR.out]), gout _⟩
end
end
section
attribute [local go_sem] G.cell
theorem find_qi {A3 : Option Addr} {ds : List S70} {s : ByteArray} {q : Option Addr} (hq : qOf A3 ds s = q) {k : Nat} (hk : k = ds.length) (nm : ByteArray) (wd ln : Int) (c3 : Nat) (A4 : Option Addr) (n4 c4 : Nat) (w : World) (hd : k70.C w A3 ds.length ds) (hld : ds.length <= c3) :
 Calls ak 181 #[.agg #[.string nm, .int .i64 wd, .int .i64 ln, .slice A3 k c3, .slice A4 n4 c4], .string s] w fun e w' => e = .returned (.pointer q) /\ Below w.heap.size w w' := by
 subst hk
 exact hq ▸ find_q nm wd ln ds A3 c3 A4 n4 c4 s w hd hld
theorem twice_find (ds : List S70) (i : Nat) (hi : i < ds.length) : cP ds i = (bZ (ds.take i) (aG ds (i : Int)).f1).isSome := by
 unfold cP bZ
 have hl : (ds.take i).length = i := by simp; omega
 rw [hl]
 congr 1
 refine jA fun j hj => ?_
 have e : aG (ds.take i) (j : Int) = aG ds (j : Int) := by
  unfold aG
  rw [av, au, au, jt, if_pos hj]
 rw [e]
set_option maxRecDepth 100000 in
theorem c50_calls (nm : ByteArray) (wd ln : Int) (ds : List S70) (bd : List S119) (A3 : Option Addr) (c3 : Nat) (A4 : Option Addr) (c4 : Nat) (W : World) (hd : k70.C W A3 ds.length ds) (hld : ds.length <= c3) (i : Nat) (hi : i < ds.length) (b : Bool) (hb : b = cP ds i) :
 Calls ak 180 #[.agg #[.string nm, .int .i64 wd, .int .i64 ln, .slice A3 ds.length c3, .slice A4 bd.length c4], .int .i64 (i : Int)] W fun e w' => e = .returned (.bool b) /\ Below W.heap.size W w' := by
 have gout := @gA W
 have HR := I (hb.trans (twice_find ds i hi))
 clear hb
 have hlm := hd.2.1
 have HTK := I (Kd.C_take hd (show i <= ds.length by omega))
 have HLC := I (show (ds.take i).length <= c3 by simp; omega)
 obtain ⟨adr, A9d, c9d, e1, q0, q1, q2, q3, l9, g9⟩ := dN hd (i : Int) (bc _) (by omega)
 cases e1
 rw [av] at q1
 have hi1 : (i : Int) < (ds.length : Int) := by omega
 have hi2 : (i : Int) <= (c3 : Int) := by omega
 have HD := I hd
 have hsl : ∀ X : World, (Instr.slice 22 (.slice (ac adr) ds.length c3) ag (ac (.int .i64 (i : Int))) ag).run ak X = .ok (.slice (ac adr) i c3) X := by
  intro X
  go_simp
  try simp
 clear hd q0 q2 q3 l9 g9
 go_enter Tryz.func180, Tryz.ntmps180
 go_upto_region 1 with (fail)
 refine aH ?_
 intro gg
 have r1 : ∀ g : G (gw0 gg), g.W.cell? ⟨(adr.add (i * 4)).block, (adr.add (i * 4)).off + 1, ag⟩ = ac (.string (aG ds (i : Int)).f1) := fun g => aE (gout g) q1
 clear q1
 rcases aJ ((bZ (ds.take i) (aG ds (i : Int)).f1).isNone) with hn | hn
 ·have hq := qOf_none (A3 := ac adr) hn
  have HN := I (show (bZ (ds.take i) (aG ds (i : Int)).f1).isSome = J by cases hf : bZ (ds.take i) (aG ds (i : Int)).f1 with | none => rfl | some j => rw [hf] at hn; cases hn)
  have HQ := I hq
  clear hn hq
  refine aP (g := gg) (by kernel_rfl) (by kernel_rfl) ?_
  repeat (go_big_quiet_step (fail))
  go_big_quiet_step (first | (go_at_call 181; exact aD (find_qi HQ.out (by simp; omega) _ _ _ _ _ _ _ _ (Kd.aF HTK.out (gout _)) HLC.out)))
  repeat (go_big_quiet_step (fail))
  refine wpQuiet_nil ?_
  rintro _ ⟨gg, rfl⟩
  go_wp2_with fail
  go_ret
  exact ⟨aC (by rw [HR.out, HN.out]), gout _⟩
 ·obtain ⟨qa, hq⟩ := qOf_some HTK.out hn
  have HN := I (show (bZ (ds.take i) (aG ds (i : Int)).f1).isSome = af by cases hf : bZ (ds.take i) (aG ds (i : Int)).f1 with | none => rw [hf] at hn; cases hn | some j => rfl)
  have HQ := I hq
  clear hn hq
  refine aP (g := gg) (by kernel_rfl) (by kernel_rfl) ?_
  repeat (go_big_quiet_step (fail))
  go_big_quiet_step (first | (go_at_call 181; exact aD (find_qi HQ.out (by simp; omega) _ _ _ _ _ _ _ _ (Kd.aF HTK.out (gout _)) HLC.out)))
  repeat (go_big_quiet_step (fail))
  refine wpQuiet_nil ?_
  rintro _ ⟨gg, rfl⟩
  go_wp2_with fail
  go_ret
  exact ⟨aC (by rw [HR.out, HN.out]), gout _⟩
end
section
attribute [local go_sem] G.cell
set_option maxRecDepth 100000 in
theorem neg_calls (wd x : Int) (bp : Nat) (W : World) (hc : W.cell? ⟨bp, 1, ag⟩ = ac (.int .i64 wd)) (h0 : 0 <= wd) (hx : 0 <= x) (b : Bool) (hb : gH wd x = b) :
 Calls ak 186 #[.int .u64 x, .pointer (ac ⟨bp, 0, ag⟩)] W fun e w' => e = .returned (.bool (!b)) /\ Below W.heap.size W w' := by
 go_enter Tryz.func186, Tryz.ntmps186
 go_upto_region 1 with (fail)
 refine aH ?_
 intro gg
 have hc2 := aE gg.below hc
 clear hc
 go_wp2_with fail
 refine (aD (g := gg) (lV wd x gg.W h0 hx b hb)).mono ?_
 rintro _ _ ⟨rfl, gg, rfl⟩
 go_wp2_with fail
 go_ret
 exact ⟨rfl, gg.below⟩
def indexS (wd : Int) (l : List Int) : Int := match aZ l.length (fun j => !gH wd (l.getD j 0)) with
 | some i => (i : Int)
 | none => -1
set_option maxRecDepth 100000 in
theorem index_calls (wd : Int) (l : List Int) (bp : Nat) (A : Option Addr) (c : Nat) (W : World) (hc : W.cell? ⟨bp, 1, ag⟩ = ac (.int .i64 wd)) (h0 : 0 <= wd) (hx : ∀ v ∈ l, 0 <= v) (hl : (Kd.int .u64).C W A l.length l) (hlc : l.length <= c) (r : Int) (hr : r = indexS wd l) :
 Calls ak 248 #[.slice A l.length c, .func (.func 186) #[] #[.pointer (ac ⟨bp, 0, ag⟩)]] W fun e w' => e = .returned (.int .i64 r) /\ Below W.heap.size W w' := by
 have HC := I hc
 have HX := I hx
 have HL := I hl
 have HR := I hr
 have hlm := hl.2.1
 clear hc hx hl hr
 go_enter Tryz.func248, Tryz.ntmps248
 go_wp2_with fail
 go_loopw [8] (fun i X => ∃ (k : Nat) (g : G W), i = .int .i64 k /\ X = g.W /\ k <= l.length /\ Aside0 (∀ j, j < k -> (!gH wd (l.getD j 0)) = J)) (fun i _ => l.length - (intOf i).toNat)
 case atStart => exact ⟨0, ⟨W, aq _ _⟩, rfl, rfl, bi _, ⟨fun j hj => absurd hj (cq _)⟩⟩
 case round =>
  obtain ⟨k, gx, rfl, rfl, hk, HK⟩ := hrel
  by_cases hlt : k < l.length
  ·obtain ⟨adv, cs9, eA, ec9, eK9, hc9⟩ := Kd.oI (d := Kd.int .u64) HL.out (0 : Int) (k : Int) (bc _) (by omega)
   cases eA
   have eK9' : cs9 = [.int .u64 (l.getD (k : Int).toNat 0)] := eK9
   subst eK9'
   have s0 := hc9 0 _ rfl
   rw [av] at s0
   clear hc9 eK9 ec9
   replace s0 := aE gx.below s0
   have t0 : gx.W.cell? (adv.add (k * 1 + 0)) = ac (.int .u64 (l.getD k 0)) := s0
   simp only [gu, fq] at t0
   clear s0
   have hk1 : (k : Int) < (l.length : Int) := by omega
   have hv := I (HX.out _ (o4 hlt))
   obtain ⟨z, hz⟩ : ∃ z, l.getD k 0 = z := ⟨_, rfl⟩
   rw [hz] at hv t0
   have HZ := I hz
   clear hz
   go_wp2_with fail
   rcases aJ (gH wd z) with hf | hf
   ·have HF := I hf
    clear hf
    refine (aD (g := gx) (neg_calls wd z bp gx.W (aE gx.below HC.out) h0 hv.out af HF.out)).mono ?_
    rintro _ _ ⟨rfl, g2, rfl⟩
    go_wp2_with fail
    exact ⟨⟨k + 1, g2, by go_num, rfl, by omega, ⟨fun j hj => (gh (j = k)).elim (fun h => by rw [h, HZ.out, HF.out]; rfl) (fun h => HK.out j (by omega))⟩⟩, by simp [intOf]; omega⟩
   ·have HF := I hf
    clear hf
    refine (aD (g := gx) (neg_calls wd z bp gx.W (aE gx.below HC.out) h0 hv.out J HF.out)).mono ?_
    rintro _ _ ⟨rfl, g2, rfl⟩
    go_wp2_with fail
    go_ret
    have e : r = (k : Int) := by rw [HR.out]; unfold indexS; rw [cB hlt (by rw [HZ.out, HF.out]; rfl) HK.out]
    exact ⟨by rw [e]; rfl, g2.below⟩
  ·have hk1 : ¬ (k : Int) < (l.length : Int) := by omega
   go_wp2_with fail
   go_ret
   have e : r = -1 := by rw [HR.out]; unfold indexS; rw [bG fun j hj => HK.out j (by omega)]
   exact ⟨by rw [e]; rfl, gx.below⟩
theorem index_any (wd : Int) (l : List Int) : decide (0 <= indexS wd l) = l.any (fun v => !gH wd v) := by
 unfold indexS
 rcases dD l.length (fun j => !gH wd (l.getD j 0)) with ⟨h1, h2⟩ | ⟨i, h0, h1, h2, _⟩
 ·rw [h1]
  symm
  rw [show decide ((0 : Int) <= -1) = J by decide, List.any_eq_false]
  intro v hv
  obtain ⟨j, hj, rfl⟩ := fz hv
  have := h2 j hj
  simp only [au, az hj] at this
  simpa using this
 ·rw [h1]
  symm
  rw [show decide ((0 : Int) <= (i : Int)) = af by simp, List.any_eq_true]
  exact ⟨_, o4 h0, h2⟩
set_option maxRecDepth 100000 in
theorem contains_calls (wd : Int) (l : List Int) (bp : Nat) (A : Option Addr) (c : Nat) (W : World) (hc : W.cell? ⟨bp, 1, ag⟩ = ac (.int .i64 wd)) (h0 : 0 <= wd) (hx : ∀ v ∈ l, 0 <= v) (hl : (Kd.int .u64).C W A l.length l) (hlc : l.length <= c) (b : Bool) (hb : b = l.any (fun v => !gH wd v)) :
 Calls ak 185 #[.slice A l.length c, .func (.func 186) #[] #[.pointer (ac ⟨bp, 0, ag⟩)]] W fun e w' => e = .returned (.bool b) /\ Below W.heap.size W w' := by
 have H := I (ae hc (ae hx hl))
 obtain ⟨r, hr⟩ : ∃ r, r = indexS wd l := ⟨_, rfl⟩
 have HR := I hr
 have HB := I (hb.trans (index_any wd l).symm)
 clear hc hx hl hr hb
 go_enter Tryz.func185, Tryz.ntmps185
 go_upto_region 1 with (fail)
 refine aH ?_
 intro gg
 go_wp2_with fail
 refine (aD (g := gg) (index_calls wd l bp A c gg.W (aE gg.below H.out.1) h0 H.out.2.1 (Kd.aF H.out.2.2 gg.below) hlc r HR.out)).mono ?_
 rintro _ _ ⟨rfl, gg, rfl⟩
 rcases cu r 0 with hn | hn
 ·have hn' : ¬ r ≥ 0 := by omega
  have HN := I hn
  go_wp2_with fail
  go_ret
  exact ⟨aC (by rw [HB.out, <- HR.out] <;> (symm; exact decide_eq_false (by have := HN.out; omega))), gg.below⟩
 ·have hn' : r ≥ 0 := hn
  have HN := I hn
  go_wp2_with fail
  go_ret
  exact ⟨aC (by rw [HB.out, <- HR.out] <;> (symm; exact decide_eq_true HN.out)), gg.below⟩
set_option maxRecDepth 100000 in
theorem c54_calls (nm : ByteArray) (wd ln : Int) (ds : List S70) (bd : List S119) (A3 : Option Addr) (c3 : Nat) (A4 : Option Addr) (c4 : Nat) (W : World) (hd : k70.C W A3 ds.length ds) (h0 : 0 <= wd) (hv : ∀ d ∈ ds, ∀ v ∈ d.f3, 0 <= v) (i : Nat) (hi : i < ds.length) (b : Bool) (hb : b = cC wd ds i) :
 Calls ak 184 #[.agg #[.string nm, .int .i64 wd, .int .i64 ln, .slice A3 ds.length c3, .slice A4 bd.length c4], .int .i64 (i : Int)] W fun e w' => e = .returned (.bool b) /\ Below W.heap.size W w' := by
 have hmf : ∀ (fn : Fn) (first cap : Array Value) (w : World), (Instr.makeFunc fn first cap).run ak w = .ok (.func fn first cap) w := fun _ _ _ _ => rfl
 have gout := @gA W
 have HR := I hb
 have HV := I (hv _ (dO hi))
 have hlm := hd.2.1
 obtain ⟨adr, A9d, c9d, e1, q0, q1, q2, q3, l9, g9⟩ := dN hd (i : Int) (bc _) (by omega)
 cases e1
 rw [av] at q3
 have hi1 : (i : Int) < (ds.length : Int) := by omega
 have VAL := I (ae l9 g9)
 clear hb hv hd q0 q1 q2 l9 g9
 go_enter Tryz.func184, Tryz.ntmps184
 go_upto_region 1 with (fail)
 refine aH ?_
 intro gg
 have r3 := aE (gout gg) q3
 have x1 := I (show gg.W.cell? ⟨W.heap.size, 1, ag⟩ = ac (.int .i64 wd) from (gg.below.cell (p := ⟨W.heap.size, 1, ag⟩) (by simp)).trans (by simp [go_sem]))
 clear q3
 go_wp2_with fail
 refine (aD (g := gg) (contains_calls wd (aG ds (i : Int)).f3 W.heap.size A9d c9d gg.W x1.out h0 HV.out (Kd.aF VAL.out.2 (gout gg)) VAL.out.1 b HR.out)).mono ?_
 rintro _ _ ⟨rfl, gg, rfl⟩
 go_wp2_with fail
 go_ret
 exact ⟨rfl, gout _⟩
end
theorem kV : ∀ (L : List Obj) (W : World), Below W.heap.size W (L.foldl World.alloc W)
 | [], W => aq _ _
 | o :: r, W => ((aq _ _).alloc (ar _) o).trans ((kV r (W.alloc o)).mono (by simp))
theorem lT : ∀ (L : List Obj) (W : World) (i : Nat), i < L.length -> (L.foldl World.alloc W).heap[W.heap.size + i]? = L[i]?
 | [], _, _, h => by simp at h
 | o :: r, W, 0, _ => by
   rw [List.foldl_cons, fq, (kV r (W.alloc o)).block W.heap.size (by simp)]
   exact aV W o
 | o :: r, W, i + 1, h => by
   have e := lT r (W.alloc o) i (by simpa using h)
   have hs : (W.alloc o).heap.size = W.heap.size + 1 := by simp
   rw [hs] at e
   rw [List.foldl_cons, show W.heap.size + (i + 1) = W.heap.size + 1 + i by omega]
   simpa using e
def clL (b : Nat) : List Obj := [.cells #[.func (.func 75) #[] #[]] 33, .cells #[.func (.func 175) #[] #[]] 33, .cells #[.func (.func 177) #[] #[]] 33, .cells #[.func (.func 178) #[] #[]] 33, .cells #[.func (.func 180) #[] #[]] 55, .cells #[.func (.func 182) #[] #[]] 55, .cells #[.func (.func 183) #[] #[]] 55, .cells #[.func (.func 184) #[] #[]] 55, .cells #[.func (.func 188) #[] #[]] 33, .cells #[.func (.func 191) #[] #[]] 240, .cells #[.func (.func 193) #[] #[]] 240, .cells #[.func (.func 196) #[] #[]] 240, .cells #[.func (.func 198) #[] #[]] 240, .cells #[.func (.func 199) #[] #[]] 240, .cells #[.func (.func 200) #[] #[]] 240, .cells #[.func (.func 201) #[] #[]] 33, .cells #[.int .i64 1, .func (.func 246) #[] #[.pointer (ac ⟨b + 0, 0, ag⟩)], .int .i64 5, .func (.func 246) #[] #[.pointer (ac ⟨b + 1, 0, ag⟩)], .int .i64 163, .func (.func 246) #[] #[.pointer (ac ⟨b + 2, 0, ag⟩)], .int .i64 4, .func (.func 246) #[] #[.pointer (ac ⟨b + 3, 0, ag⟩)], .int .i64 160, .func (.func 247) #[] #[.pointer (ac ⟨b + 4, 0, ag⟩)], .int .i64 163, .func (.func 247) #[] #[.pointer (ac ⟨b + 5, 0, ag⟩)], .int .i64 164, .func (.func 247) #[] #[.pointer (ac ⟨b + 6, 0, ag⟩)], .int .i64 165, .func (.func 247) #[] #[.pointer (ac ⟨b + 7, 0, ag⟩)], .int .i64 169, .func (.func 246) #[] #[.pointer (ac ⟨b + 8, 0, ag⟩)], .int .i64 152, .func (.func 249) #[] #[.pointer (ac ⟨b + 9, 0, ag⟩)], .int .i64 161, .func (.func 249) #[] #[.pointer (ac ⟨b + 10, 0, ag⟩)], .int .i64 162, .func (.func 249) #[] #[.pointer (ac ⟨b + 11, 0, ag⟩)], .int .i64 165, .func (.func 249) #[] #[.pointer (ac ⟨b + 12, 0, ag⟩)], .int .i64 166, .func (.func 249) #[] #[.pointer (ac ⟨b + 13, 0, ag⟩)], .int .i64 167, .func (.func 249) #[] #[.pointer (ac ⟨b + 14, 0, ag⟩)], .int .i64 168, .func (.func 246) #[] #[.pointer (ac ⟨b + 15, 0, ag⟩)]] 190]
set_option maxRecDepth 100000 in
theorem clauses_calls (W : World) : Calls ak 128 #[] W fun e w' => e = .returned (.slice (ac ⟨W.heap.size + 16, 0, ag⟩) 16 16) /\ w' = (clL W.heap.size).foldl World.alloc W := by
 have hmf : ∀ (fn : Fn) (first cap : Array Value) (w : World), (Instr.makeFunc fn first cap).run ak w = .ok (.func fn first cap) w := fun _ _ _ _ => rfl
 go_enter Tryz.func128, Tryz.ntmps128
 go_wp2
 go_ret
 exact ⟨rfl, rfl⟩
section
attribute [local go_sem] G.cell
set_option maxRecDepth 100000 in
theorem cl12_calls {Wb : World} (nm : ByteArray) (wd ln : Int) (ds : List S70) (bd : List S119) (A3 : Option Addr) (c3 : Nat) (A4 : Option Addr) (c4 : Nat) (hp : ProgAt Wb ds bd A3 c3 A4 c4) (hd0 : ∀ d ∈ ds, 0 <= d.f2) (W : World) (n : Nat) (dp sp ep : Value) (dI : Int) (lp : Value) (t : Th) (hR : RT t) (hB : Below Wb.heap.size Wb W) (ht : ThP Wb W dp sp ep dI lp t) (h11 : jF ds t = J) (b : Bool) (hb : b = mY ds t) :
 Calls ak 196 #[.agg #[.string nm, .int .i64 wd, .int .i64 ln, .slice A3 ds.length c3, .slice A4 bd.length c4], .agg #[.int .i64 n, dp, sp, ep, .int .i64 dI, lp]] W fun e w' => e = .returned (.bool b) /\ Below W.heap.size W w' := by
 have gout := @gB W
 have HB := I hB
 have HP := I hp
 have HR := I hb
 have HT := I ht
 have HRT := I hR
 clear hb hB hp hR
 go_enter Tryz.func196, Tryz.ntmps196
 go_upto_region 1 with (fail)
 refine aH ?_
 intro gg
 have goutW : ∀ (g : G (gw0 gg)), Below W.heap.size W g.W := fun g => gout g
 have goutB : ∀ (g : G (gw0 gg)), Below Wb.heap.size Wb g.W := fun g => HB.out.trans ((goutW g).mono HB.out.size)
 clear ht
 obtain ⟨r1, h1⟩ : ∃ r, r = (iO t).getD ⟨#[]⟩ := ⟨_, rfl⟩
 obtain ⟨r2, h2⟩ : ∃ r, r = (iO t).isSome := ⟨_, rfl⟩
 have HU := I (show (r1, r2) = ((iO t).getD ⟨#[]⟩, (iO t).isSome) by rw [h1, h2])
 have HV := I (ae h1 h2)
 have H11 := I h11
 have HD := I hd0
 clear h1 h2 h11 hd0
 go_wp2_with fail
 refine (aD (g := gg) (use_calls gg.W n dp sp ep dI lp t HRT.out (goutB gg) (HT.out.below (goutW gg)) r1 r2 HU.out)).mono ?_
 rintro _ _ ⟨rfl, gg, rfl⟩
 cases hu : iO t with
 | none =>
   have e2 : r2 = J := by rw [HV.out.2, hu]; rfl
   have HE := I (show b = J by rw [HR.out]; unfold mY; rw [hu])
   clear hu
   subst e2
   go_wp2_with fail
   go_ret
   exact ⟨aC HE.out.symm, goutW _⟩
 | some s =>
   have e2 : r2 = af := by rw [HV.out.2, hu]; rfl
   have e1 : r1 = s := by rw [HV.out.1, hu]; rfl
   have HE := I (show b = !oH ds t s by rw [HR.out]; unfold mY; rw [hu])
   have HUS := I hu
   have KN := I (show iC (gF t) s = af \/ ∃ i, bZ ds s = ac i by
    have h := H11.out
    unfold jF at h
    rw [hu] at h
    simp only [Bool.and_eq_false_iff, Bool.not_eq_false'] at h
    rcases h with h | h
    ·exact .inl h
    ·cases hf : bZ ds s with
     | none => rw [hf] at h; cases h
     | some i => exact .inr ⟨i, rfl⟩)
   clear hu
   subst e2 e1
   obtain ⟨kb, hkb⟩ : ∃ z, z = oH ds t r1 := ⟨_, rfl⟩
   have HKB := I hkb
   clear hkb
   go_wp2_with fail
   refine (aD (g := gg) (wkind_calls nm wd ln ds bd A3 c3 A4 c4 HP.out HD.out gg.W n dp sp ep dI lp t HRT.out (goutB gg) (HT.out.below (goutW gg)) r1 HUS.out KN.out kb HKB.out)).mono ?_
   rintro _ _ ⟨rfl, gg, rfl⟩
   go_wp2_with fail
   go_ret
   exact ⟨aC (by rw [HE.out, <- HKB.out]), goutW _⟩
end
section
attribute [local go_sem] G.cell
set_option maxRecDepth 100000 in
theorem cl13_calls {Wb : World} (nm : ByteArray) (wd ln : Int) (ds : List S70) (bd : List S119) (A3 : Option Addr) (c3 : Nat) (A4 : Option Addr) (c4 : Nat) (hp : ProgAt Wb ds bd A3 c3 A4 c4) (hw : 0 <= wd) (W : World) (n : Nat) (dp sp ep : Value) (dI : Int) (lp : Value) (t : Th) (hR : RT t) (hB : Below Wb.heap.size Wb W) (ht : ThP Wb W dp sp ep dI lp t) (b : Bool) (hb : b = bad13 wd t) :
 Calls ak 198 #[.agg #[.string nm, .int .i64 wd, .int .i64 ln, .slice A3 ds.length c3, .slice A4 bd.length c4], .agg #[.int .i64 n, dp, sp, ep, .int .i64 dI, lp]] W fun e w' => e = .returned (.bool b) /\ Below W.heap.size W w' := by
 have gout := @gB W
 have HB := I hB
 have HP := I hp
 have HR := I hb
 have HT := I ht
 have HRT := I hR
 clear hb hB hp hR
 go_enter Tryz.func198, Tryz.ntmps198
 go_upto_region 1 with (fail)
 refine aH ?_
 intro gg
 have goutW : ∀ (g : G (gw0 gg)), Below W.heap.size W g.W := fun g => gout g
 have goutB : ∀ (g : G (gw0 gg)), Below Wb.heap.size Wb g.W := fun g => HB.out.trans ((goutW g).mono HB.out.size)
 cases t with
 | decl i =>
   obtain ⟨⟨a, rfl⟩, rfl, rfl, rfl, rfl⟩ := ht
   go_upto_region 1 with (fail)
   refine aP (g := gg) (by kernel_rfl) (by kernel_rfl) ?_
   repeat (go_big_quiet_step (fail))
   refine wpQuiet_nil ?_
   rintro _ ⟨gg, rfl⟩
   go_wp2_with fail
   go_ret
   exact ⟨aC (by rw [HR.out]; rfl), goutW _⟩
 | stmt s d lo =>
   obtain ⟨rfl, ⟨a, A5, c5, A9, c9, A12, c12, A13, c13, rfl, hr, _⟩, rfl, rfl, hsc⟩ := ht
   clear hr hsc
   go_upto_region 1 with (fail)
   refine aP (g := gg) (by kernel_rfl) (by kernel_rfl) ?_
   repeat (go_big_quiet_step (fail))
   refine wpQuiet_nil ?_
   rintro _ ⟨gg, rfl⟩
   go_wp2_with fail
   go_ret
   exact ⟨aC (by rw [HR.out]; rfl), goutW _⟩
 | expr x lo =>
   obtain ⟨rfl, rfl, ⟨a, A, c, rfl, hr, _⟩, rfl, hsc⟩ := ht
   have q0 : ∀ g : G (gw0 gg), g.W.cell? ⟨a.block, a.off, ag⟩ = ac (.int .i64 x.f0) := fun g => aE (goutB g) (by have := hr 0 _ rfl; rwa [fq] at this)
   have q1 : ∀ g : G (gw0 gg), g.W.cell? ⟨a.block, a.off + 1, ag⟩ = ac (.int .u64 x.f1) := fun g => aE (goutB g) (hr 1 _ rfl)
   clear hr hsc
   by_cases k : x.f0 = 1
   ·have K := I k
    rw [k] at q0
    clear k
    rcases aJ (gH wd x.f1) with hf | hf
    ·have HF := I hf
     clear hf
     go_upto_region 1 with (fail)
     refine aP (g := gg) (by kernel_rfl) (by kernel_rfl) ?_
     repeat (go_big_quiet_step (fail))
     go_big_quiet_step (first | (go_at_call 187; exact aD (lV wd x.f1 _ hw HRT.out.1 _ HF.out)))
     repeat (go_big_quiet_step (fail))
     refine wpQuiet_nil ?_
     rintro _ ⟨gg, rfl⟩
     go_wp2_with fail
     go_ret
     exact ⟨aC (by rw [HR.out]; simp [bad13, K.out, HF.out]), goutW _⟩
    ·have HF := I hf
     clear hf
     go_upto_region 1 with (fail)
     refine aP (g := gg) (by kernel_rfl) (by kernel_rfl) ?_
     repeat (go_big_quiet_step (fail))
     go_big_quiet_step (first | (go_at_call 187; exact aD (lV wd x.f1 _ hw HRT.out.1 _ HF.out)))
     repeat (go_big_quiet_step (fail))
     refine wpQuiet_nil ?_
     rintro _ ⟨gg, rfl⟩
     go_wp2_with fail
     go_ret
     exact ⟨aC (by rw [HR.out]; simp [bad13, K.out, HF.out]), goutW _⟩
   ·have K := I k
    have b1 := bf k
    clear k
    go_upto_region 1 with (fail)
    refine aP (g := gg) (by kernel_rfl) (by kernel_rfl) ?_
    repeat (go_big_quiet_step (fail))
    refine wpQuiet_nil ?_
    rintro _ ⟨gg, rfl⟩
    go_wp2_with fail
    go_ret
    exact ⟨aC (by rw [HR.out]; simp [bad13, K.out]), goutW _⟩
end
end Go.Proofs.YtfigjpehecibeaaGreat.L
