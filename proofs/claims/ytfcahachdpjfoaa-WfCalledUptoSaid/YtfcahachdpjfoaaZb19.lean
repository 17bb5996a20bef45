/- Texts joined by a program of mine: Uq Ur Uv Sx. -/
import Derived.Test.YtfcahachdpjfoaaZb8
import Derived.Test.YtfcahachdpjfoaaZb10
import Derived.Test.YtfcahachdpjfoaaZb13
import Derived.Test.YtfcahachdpjfoaaZb18
section
namespace Go.Proofs.Ytfcahachdpjfoaa.L
open Go.RowKit Go.Proofs.YtfcahachdpjfoaaW.PrintWords Go.Proofs.YtfcahachdpjfoaaW.PrintLast Go.Proofs.YtfcahachdpjfoaaW.PrintMore Go.Proofs.Ytfcahachdpjfoaa.Gr
set_option linter.unusedVariables false
set_option linter.unusedSimpArgs false
def KW : Th → Prop
  | .decl _ => True
  | .stmt s _ _ => 1 ≤ s.f0 ∧ s.f0 ≤ 5
  | .expr e _ => weightE e ≤ 8388608
mutual
theorem kw_exTh : ∀ (e : S75) (lo : List ByteArray), weightE e ≤ 8388608 → ∀ t ∈ exTh e lo, KW t
  | ⟨a, b, s, l⟩, lo, h, t, ht => by
    rw [exTh] at ht
    rcases List.mem_cons.1 ht with rfl | ht
    · exact h
    · rw [weightE] at h
      exact kw_exThs l lo (by omega) t ht
theorem kw_exThs : ∀ (l : List S75) (lo : List ByteArray), weightL l ≤ 8388608 → ∀ t ∈ exThs l lo, KW t
  | [], _, _, t, ht => by rw [exThs] at ht; cases ht
  | x :: r, lo, h, t, ht => by
    rw [weightL] at h
    rw [exThs] at ht
    rcases List.mem_append.1 ht with ht | ht
    · exact kw_exTh x lo (by omega) t ht
    · exact kw_exThs r lo (by omega) t ht
end
mutual
theorem kw_stTh : ∀ (x : S77) (d : Nat) (lo : List ByteArray), stB x = true → Ot.bulkT x ≤ 1048576 → ∀ t ∈ stTh x d lo, KW t
  | ⟨k, nm, e, f, l, h, th, el⟩, d, lo, hs, hb, t, ht => by
    have F := st_form hs
    rw [Ot.bulkT] at hb
    rw [stTh] at ht
    have h1 := weight_bulk e
    have h2 := weight_bulk f
    rcases List.mem_cons.1 ht with rfl | ht
    · exact ⟨F.1, F.2.1⟩
    · rcases List.mem_append.1 ht with ht | ht
      · rcases List.mem_append.1 ht with ht | ht
        · split at ht
          · exact kw_exTh e lo (by omega) t ht
          · cases ht
        · split at ht
          · exact kw_exTh f lo (by omega) t ht
          · cases ht
      · rcases List.mem_append.1 ht with ht | ht
        · exact kw_stThs th _ _ F.2.2.2.2.1 (by omega) t ht
        · exact kw_stThs el _ _ F.2.2.2.2.2 (by omega) t ht
theorem kw_stThs : ∀ (l : List S77) (d : Nat) (lo : List ByteArray), bdB l = true → Ot.bulkTs l ≤ 1048576 → ∀ t ∈ stThs l d lo, KW t
  | [], _, _, _, _, t, ht => by rw [stThs] at ht; cases ht
  | x :: r, d, lo, hs, hb, t, ht => by
    rw [bdB_all, List.all_cons, Bool.and_eq_true, ← bdB_all] at hs
    rw [Ot.bulkTs] at hb
    rw [stThs] at ht
    rcases List.mem_append.1 ht with ht | ht
    · exact kw_stTh x d lo hs.1 (by omega) t ht
    · exact kw_stThs r d lo hs.2 (by omega) t ht
end
theorem rw_things {ds : List S44} {bd : List S77} (h : ∀ t ∈ bd, Ot.goodT t) (hf : bdB bd = true) (hb : Ot.bulkTs bd ≤ 1048576) : ∀ t ∈ things ds bd, RW t := by
  intro t ht
  have h1 := good_things (ds := ds) h t ht
  have h2 : KW t := by
    unfold things at ht
    rcases List.mem_append.1 ht with ht | ht
    · obtain ⟨i, _, rfl⟩ := List.mem_map.1 ht
      trivial
    · exact kw_stThs bd 1 [] hf hb t ht
  cases t with
  | decl i => exact ⟨⟨h1, trivial⟩, trivial⟩
  | stmt s d l => exact ⟨⟨h1, h2⟩, trivial⟩
  | expr e l => exact ⟨⟨h1, trivial⟩, h2⟩
theorem firstS_no {f : Th → Bool} {l : List Th} (h : (firstS f l).2 = false) : firstN l.length (fun i => f (thAt l i)) = none := by
  unfold firstS at h
  cases e : firstN l.length (fun i => f (thAt l i)) with
  | none => rfl
  | some i => rw [e] at h; cases h
theorem firstS_yes {f : Th → Bool} {l : List Th} (h : (firstS f l).2 = true) : ∃ i : Nat, firstN l.length (fun i => f (thAt l i)) = some i ∧ (firstS f l).1 = (i : Int) := by
  unfold firstS at h ⊢
  cases e : firstN l.length (fun i => f (thAt l i)) with
  | none => rw [e] at h; cases h
  | some i => exact ⟨i, rfl, rfl⟩
theorem firstD_no {f : Nat → Bool} {n : Nat} (h : (firstD f n).2 = false) : firstN n f = none := by
  unfold firstD at h
  cases e : firstN n f with
  | none => rfl
  | some i => rw [e] at h; cases h
theorem firstD_yes {f : Nat → Bool} {n : Nat} (h : (firstD f n).2 = true) : ∃ i : Nat, firstN n f = some i ∧ (firstD f n).1 = (i : Int) := by
  unfold firstD at h ⊢
  cases e : firstN n f with
  | none => rw [e] at h; cases h
  | some i => exact ⟨i, rfl, rfl⟩
theorem firstN_all {n : Nat} {f : Nat → Bool} (h : firstN n f = none) : ∀ j, j < n → f j = false := by
  rcases firstN_cases n f with ⟨_, h2⟩ | ⟨i, _, h1, _, _⟩
  · exact h2
  · rw [h] at h1; cases h1
theorem firstS_mem {f : Th → Bool} {l : List Th} (h : (firstS f l).2 = false) : ∀ t ∈ l, f t = false := by
  intro t ht
  obtain ⟨i, hi, rfl⟩ := List.getElem_of_mem ht
  have := firstN_all (firstS_no h) i hi
  rwa [thAt_lt hi] at this
def cR (nm : ByteArray) (wd ln : Int) (ds : List S44) (bd : List S77) : Nat → Int × Bool
  | 0 => (-1, !formB nm wd ln ds bd)
  | 1 => (-1, !widthB wd)
  | 2 => (-1, !pow2B ln)
  | 3 => (-1, !decide (ds.length ≤ 256))
  | 4 => firstD (twiceB ds) ds.length
  | 5 => firstD (sizeBad ds) ds.length
  | 6 => firstD (valuesBad ds) ds.length
  | 7 => firstD (rangeBad wd ds) ds.length
  | 8 => (-1, !decide (wordsS ds ≤ 4096))
  | 9 => firstS (badC wd ds 10) (things ds bd)
  | 10 => firstS (badC wd ds 11) (things ds bd)
  | 11 => firstS (badC wd ds 12) (things ds bd)
  | 12 => firstS (badC wd ds 13) (things ds bd)
  | 13 => firstS (badC wd ds 14) (things ds bd)
  | 14 => firstS (badC wd ds 15) (things ds bd)
  | _ => (-1, !decide (sizeB bd ≤ 65536))
def cF : Nat → FuncId
  | 4 => 91
  | 5 => 91
  | 6 => 91
  | 7 => 91
  | 9 => 93
  | 10 => 93
  | 11 => 93
  | 12 => 93
  | 13 => 93
  | 14 => 93
  | _ => 87
def cE : Nat → Int
  | 0 => 1
  | 1 => 5
  | 2 => 163
  | 3 => 4
  | 4 => 160
  | 5 => 163
  | 6 => 164
  | 7 => 165
  | 8 => 169
  | 9 => 152
  | 10 => 161
  | 11 => 162
  | 12 => 165
  | 13 => 166
  | 14 => 167
  | _ => 168
theorem b_no {b : Bool} (h : (!b) = false) : b = true := by cases b <;> simp_all
theorem b_yes {b : Bool} (h : (!b) = true) : b = false := by cases b <;> simp_all
theorem d_no {p : Prop} [Decidable p] (h : (!decide p) = false) : p := by simpa using h
theorem d_yes {p : Prop} [Decidable p] (h : (!decide p) = true) : ¬ p := by simpa using h
set_option maxRecDepth 100000 in
theorem clause_calls (nm : ByteArray) (wd ln : Int) (ds : List S44) (bd : List S77) (A3 : Option Addr) (c3 : Nat) (A4 : Option Addr) (c4 : Nat) (b : Nat) (X : World) (hp : ProgAt X ds bd A3 c3 A4 c4) (hg : PGood nm wd ln ds bd) (hbx : ∀ i, i < 16 → X.heap[b + i]? = (clL b)[i]?) (k : Nat) (hk : k < 16) (hprev : ∀ j, j < k → (cR nm wd ln ds bd j).2 = false) :
    Calls Try.prog (cF k) #[.agg #[.string nm, .int .i64 wd, .int .i64 ln, .slice A3 ds.length c3, .slice A4 bd.length c4], .pointer (some ⟨b + k, 0, none⟩)] X fun e w' => e = .returned (.tuple #[.int .i64 (cR nm wd ln ds bd k).1, .bool (cR nm wd ln ds bd k).2]) ∧ Below X.heap.size X w' := by
  have hdl := hg.sizes.1
  have hbk := hg.sizes.2
  have FF : 0 < k → 0 ≤ wd ∧ 0 ≤ ln ∧ (∀ d ∈ ds, 0 ≤ d.f2) ∧ bdB bd = true := fun h => form_facts (b_no (hprev 0 h))
  have RWt : 0 < k → ∀ t ∈ things ds bd, RW t := fun h => rw_things hg.good.bd (FF h).2.2.2 hbk
  have HV : ∀ d ∈ ds, ∀ v ∈ d.f3, 0 ≤ v := fun d hd v hv => (okU_b ((hg.good.ds d hd).2.2.2.2 v hv)).1
  have hcs : k = 0 ∨ k = 1 ∨ k = 2 ∨ k = 3 ∨ k = 4 ∨ k = 5 ∨ k = 6 ∨ k = 7 ∨ k = 8 ∨ k = 9 ∨ k = 10 ∨ k = 11 ∨ k = 12 ∨ k = 13 ∨ k = 14 ∨ k = 15 := by omega
  rcases hcs with rfl | rfl | rfl | rfl | rfl | rfl | rfl | rfl | rfl | rfl | rfl | rfl | rfl | rfl | rfl | rfl
  · exact whole44_calls nm wd ln ds bd A3 c3 A4 c4 (b + 0) X ((hbx 0 (by decide)).trans rfl) (formB nm wd ln ds bd) fun Y hY => wf_v (hp.below hY) rfl
  · exact whole45_calls nm wd ln ds bd A3 c3 A4 c4 (b + 1) X ((hbx 1 (by decide)).trans rfl) (widthB wd) fun Y hY => c45_calls nm wd ln ds bd A3 c3 A4 c4 Y _ rfl
  · exact whole47_calls nm wd ln ds bd A3 c3 A4 c4 (b + 2) X ((hbx 2 (by decide)).trans rfl) (pow2B ln) fun Y hY => c47_calls nm wd ln ds bd A3 c3 A4 c4 Y _ rfl
  · exact whole48_calls nm wd ln ds bd A3 c3 A4 c4 (b + 3) X ((hbx 3 (by decide)).trans rfl) (decide (ds.length ≤ 256)) fun Y hY => c48_calls nm wd ln ds bd A3 c3 A4 c4 Y hdl _ rfl
  · exact decls50_calls nm wd ln ds bd A3 c3 A4 c4 (b + 4) X hdl ((hbx 4 (by decide)).trans rfl) (twiceB ds) (fun Y i hY hi => c50_calls nm wd ln ds bd A3 c3 A4 c4 Y (hp.below hY).hd hp.hld i hi _ rfl) _ rfl
  · exact decls52_calls nm wd ln ds bd A3 c3 A4 c4 (b + 5) X hdl ((hbx 5 (by decide)).trans rfl) (sizeBad ds) (fun Y i hY hi => c52_calls nm wd ln ds bd A3 c3 A4 c4 Y (hp.below hY).hd i hi _ rfl) _ rfl
  · exact decls53_calls nm wd ln ds bd A3 c3 A4 c4 (b + 6) X hdl ((hbx 6 (by decide)).trans rfl) (valuesBad ds) (fun Y i hY hi => c53_calls nm wd ln ds bd A3 c3 A4 c4 Y (hp.below hY).hd i hi _ rfl) _ rfl
  · exact decls54_calls nm wd ln ds bd A3 c3 A4 c4 (b + 7) X hdl ((hbx 7 (by decide)).trans rfl) (rangeBad wd ds) (fun Y i hY hi => c54_calls nm wd ln ds bd A3 c3 A4 c4 Y (hp.below hY).hd (FF (by decide)).1 HV i hi _ rfl) _ rfl
  · have HW : ∀ d ∈ ds, d.f2 = 0 ∨ pow2B d.f2 = true := by
      intro d hd
      obtain ⟨i, hi, rfl⟩ := List.getElem_of_mem hd
      have h := size_good (firstN_all (firstD_no (hprev 5 (by decide))) i hi)
      have e : rd_T44 ds (i : Int) = ds[i] := by unfold rd_T44; rw [Int.toNat_natCast, List.getD_eq_getElem?_getD, List.getElem?_eq_getElem hi]; rfl
      rwa [e] at h
    exact whole58_calls nm wd ln ds bd A3 c3 A4 c4 (b + 8) X ((hbx 8 (by decide)).trans rfl) (decide (wordsS ds ≤ 4096)) fun Y hY => c58_calls nm wd ln ds bd A3 c3 A4 c4 Y (hp.below hY).hd hdl HW _ rfl
  · refine things1_calls (R := RW) (f := badC wd ds 10) nm wd ln ds bd A3 c3 A4 c4 (b + 9) X hp (FF (by decide)).2.2.2 hdl hbk (RWt (by decide)) (fun Y b2 hY h2 => wrong61_ok (W0 := Y) (nm := nm) (wd := wd) (ln := ln) (ds := ds) (bd := bd) (A3 := A3) (c3 := c3) (A4 := A4) (c4 := c4) ?_ ((hY.block _ (blk_lt ((hbx 9 (by decide)).trans rfl))).trans ((hbx 9 (by decide)).trans rfl)) h2) _ rfl
    intro Wb W n dp sp ep dI lp t hR h0 hB ht
    exact cl10_calls nm wd ln ds bd A3 c3 A4 c4 W n dp sp ep dI lp t hR hB ht _ rfl
  · refine things1_calls (R := RW) (f := badC wd ds 11) nm wd ln ds bd A3 c3 A4 c4 (b + 10) X hp (FF (by decide)).2.2.2 hdl hbk (RWt (by decide)) (fun Y b2 hY h2 => wrong63_ok (W0 := Y) (nm := nm) (wd := wd) (ln := ln) (ds := ds) (bd := bd) (A3 := A3) (c3 := c3) (A4 := A4) (c4 := c4) ?_ ((hY.block _ (blk_lt ((hbx 10 (by decide)).trans rfl))).trans ((hbx 10 (by decide)).trans rfl)) h2) _ rfl
    intro Wb W n dp sp ep dI lp t hR h0 hB ht
    exact cl11_calls nm wd ln ds bd A3 c3 A4 c4 ((hp.below hY).below h0) W n dp sp ep dI lp t hR.1 hB ht _ rfl
  · refine things1_calls (R := (fun t => RW t ∧ bad11 ds t = false)) (f := badC wd ds 12) nm wd ln ds bd A3 c3 A4 c4 (b + 11) X hp (FF (by decide)).2.2.2 hdl hbk (fun t ht => ⟨RWt (by decide) t ht, firstS_mem (hprev 10 (by decide)) t ht⟩) (fun Y b2 hY h2 => wrong66_ok (W0 := Y) (nm := nm) (wd := wd) (ln := ln) (ds := ds) (bd := bd) (A3 := A3) (c3 := c3) (A4 := A4) (c4 := c4) ?_ ((hY.block _ (blk_lt ((hbx 11 (by decide)).trans rfl))).trans ((hbx 11 (by decide)).trans rfl)) h2) _ rfl
    intro Wb W n dp sp ep dI lp t hR h0 hB ht
    exact cl12_calls nm wd ln ds bd A3 c3 A4 c4 ((hp.below hY).below h0) (FF (by decide)).2.2.1 W n dp sp ep dI lp t hR.1.1 hB ht hR.2 _ rfl
  · refine things1_calls (R := RW) (f := badC wd ds 13) nm wd ln ds bd A3 c3 A4 c4 (b + 12) X hp (FF (by decide)).2.2.2 hdl hbk (RWt (by decide)) (fun Y b2 hY h2 => wrong68_ok (W0 := Y) (nm := nm) (wd := wd) (ln := ln) (ds := ds) (bd := bd) (A3 := A3) (c3 := c3) (A4 := A4) (c4 := c4) ?_ ((hY.block _ (blk_lt ((hbx 12 (by decide)).trans rfl))).trans ((hbx 12 (by decide)).trans rfl)) h2) _ rfl
    intro Wb W n dp sp ep dI lp t hR h0 hB ht
    exact cl13_calls nm wd ln ds bd A3 c3 A4 c4 ((hp.below hY).below h0) (FF (by decide)).1 W n dp sp ep dI lp t hR.1 hB ht _ rfl
  · refine things1_calls (R := RW) (f := badC wd ds 14) nm wd ln ds bd A3 c3 A4 c4 (b + 13) X hp (FF (by decide)).2.2.2 hdl hbk (RWt (by decide)) (fun Y b2 hY h2 => wrong69_ok (W0 := Y) (nm := nm) (wd := wd) (ln := ln) (ds := ds) (bd := bd) (A3 := A3) (c3 := c3) (A4 := A4) (c4 := c4) ?_ ((hY.block _ (blk_lt ((hbx 13 (by decide)).trans rfl))).trans ((hbx 13 (by decide)).trans rfl)) h2) _ rfl
    intro Wb W n dp sp ep dI lp t hR h0 hB ht
    exact cl14_calls nm wd ln ds bd A3 c3 A4 c4 ((hp.below hY).below h0) (b_no (hprev 1 (by decide))) W n dp sp ep dI lp t hR.1 hB ht _ rfl
  · refine things1_calls (R := RW) (f := badC wd ds 15) nm wd ln ds bd A3 c3 A4 c4 (b + 14) X hp (FF (by decide)).2.2.2 hdl hbk (RWt (by decide)) (fun Y b2 hY h2 => wrong70_ok (W0 := Y) (nm := nm) (wd := wd) (ln := ln) (ds := ds) (bd := bd) (A3 := A3) (c3 := c3) (A4 := A4) (c4 := c4) ?_ ((hY.block _ (blk_lt ((hbx 14 (by decide)).trans rfl))).trans ((hbx 14 (by decide)).trans rfl)) h2) _ rfl
    intro Wb W n dp sp ep dI lp t hR h0 hB ht
    exact cl15_calls nm wd ln ds bd A3 c3 A4 c4 ((hp.below hY).below h0) W n dp sp ep dI lp t hR.1 hB ht _ rfl
  · exact whole71_calls nm wd ln ds bd A3 c3 A4 c4 (b + 15) X ((hbx 15 (by decide)).trans rfl) (decide (sizeB bd ≤ 65536)) fun Y hY => c71_calls nm wd ln ds bd A3 c3 A4 c4 Y (hp.below hY).hb hp.hlb ((Ot.goodTs_iff bd).2 hg.good.bd) hbk _ rfl
theorem ans_eq {a b : Ans} (h1 : a.c = b.c) (h2 : a.at' = b.at') (h3 : a.e = b.e) : a = b := by cases a; cases b; cases h1; cases h2; cases h3; rfl
theorem faultS_at {nm : ByteArray} {wd ln : Int} {ds : List S44} {bd : List S77} {k : Nat} (hk : k < 16) (hprev : ∀ j, j < k → (cR nm wd ln ds bd j).2 = false) (hb : (cR nm wd ln ds bd k).2 = true) : faultS nm wd ln ds bd = ⟨(k : Int) + 1, (cR nm wd ln ds bd k).1, cE k⟩ := by
  have hcs : k = 0 ∨ k = 1 ∨ k = 2 ∨ k = 3 ∨ k = 4 ∨ k = 5 ∨ k = 6 ∨ k = 7 ∨ k = 8 ∨ k = 9 ∨ k = 10 ∨ k = 11 ∨ k = 12 ∨ k = 13 ∨ k = 14 ∨ k = 15 := by omega
  rcases hcs with rfl | rfl | rfl | rfl | rfl | rfl | rfl | rfl | rfl | rfl | rfl | rfl | rfl | rfl | rfl | rfl
  · have hh : formB nm wd ln ds bd = false := b_yes hb
    simp only [faultS, faultD, faultC, errC, Bool.true_eq_false, if_false, if_true, reduceIte, reduceCtorEq, Nat.reduceSub, hh] <;> rfl
  · have h0 : formB nm wd ln ds bd = true := b_no (hprev 0 (by decide))
    have hh : widthB wd = false := b_yes hb
    simp only [faultS, faultD, faultC, errC, Bool.true_eq_false, if_false, if_true, reduceIte, reduceCtorEq, Nat.reduceSub, hh, h0] <;> rfl
  · have h0 : formB nm wd ln ds bd = true := b_no (hprev 0 (by decide))
    have h1 : widthB wd = true := b_no (hprev 1 (by decide))
    have hh : pow2B ln = false := b_yes hb
    simp only [faultS, faultD, faultC, errC, Bool.true_eq_false, if_false, if_true, reduceIte, reduceCtorEq, Nat.reduceSub, hh, h0, h1] <;> rfl
  · have h0 : formB nm wd ln ds bd = true := b_no (hprev 0 (by decide))
    have h1 : widthB wd = true := b_no (hprev 1 (by decide))
    have h2 : pow2B ln = true := b_no (hprev 2 (by decide))
    have hh : 256 < ds.length := Nat.not_le.1 (d_yes hb)
    simp only [faultS, faultD, faultC, errC, Bool.true_eq_false, if_false, if_true, reduceIte, reduceCtorEq, Nat.reduceSub, hh, h0, h1, h2] <;> rfl
  · have h0 : formB nm wd ln ds bd = true := b_no (hprev 0 (by decide))
    have h1 : widthB wd = true := b_no (hprev 1 (by decide))
    have h2 : pow2B ln = true := b_no (hprev 2 (by decide))
    have h3 : ¬ 256 < ds.length := Nat.not_lt.2 (d_no (hprev 3 (by decide)))
    obtain ⟨i, hh, hv⟩ := firstD_yes hb
    have hv2 : (cR nm wd ln ds bd 4).1 = (i : Int) := hv
    simp only [faultS, faultD, faultC, errC, Bool.true_eq_false, if_false, if_true, reduceIte, reduceCtorEq, Nat.reduceSub, hh, hv2, h0, h1, h2, h3] <;> rfl
  · have h0 : formB nm wd ln ds bd = true := b_no (hprev 0 (by decide))
    have h1 : widthB wd = true := b_no (hprev 1 (by decide))
    have h2 : pow2B ln = true := b_no (hprev 2 (by decide))
    have h3 : ¬ 256 < ds.length := Nat.not_lt.2 (d_no (hprev 3 (by decide)))
    have h4 : firstN ds.length (twiceB ds) = none := firstD_no (hprev 4 (by decide))
    obtain ⟨i, hh, hv⟩ := firstD_yes hb
    have hv2 : (cR nm wd ln ds bd 5).1 = (i : Int) := hv
    simp only [faultS, faultD, faultC, errC, Bool.true_eq_false, if_false, if_true, reduceIte, reduceCtorEq, Nat.reduceSub, hh, hv2, h0, h1, h2, h3, h4] <;> rfl
  · have h0 : formB nm wd ln ds bd = true := b_no (hprev 0 (by decide))
    have h1 : widthB wd = true := b_no (hprev 1 (by decide))
    have h2 : pow2B ln = true := b_no (hprev 2 (by decide))
    have h3 : ¬ 256 < ds.length := Nat.not_lt.2 (d_no (hprev 3 (by decide)))
    have h4 : firstN ds.length (twiceB ds) = none := firstD_no (hprev 4 (by decide))
    have h5 : firstN ds.length (sizeBad ds) = none := firstD_no (hprev 5 (by decide))
    obtain ⟨i, hh, hv⟩ := firstD_yes hb
    have hv2 : (cR nm wd ln ds bd 6).1 = (i : Int) := hv
    simp only [faultS, faultD, faultC, errC, Bool.true_eq_false, if_false, if_true, reduceIte, reduceCtorEq, Nat.reduceSub, hh, hv2, h0, h1, h2, h3, h4, h5] <;> rfl
  · have h0 : formB nm wd ln ds bd = true := b_no (hprev 0 (by decide))
    have h1 : widthB wd = true := b_no (hprev 1 (by decide))
    have h2 : pow2B ln = true := b_no (hprev 2 (by decide))
    have h3 : ¬ 256 < ds.length := Nat.not_lt.2 (d_no (hprev 3 (by decide)))
    have h4 : firstN ds.length (twiceB ds) = none := firstD_no (hprev 4 (by decide))
    have h5 : firstN ds.length (sizeBad ds) = none := firstD_no (hprev 5 (by decide))
    have h6 : firstN ds.length (valuesBad ds) = none := firstD_no (hprev 6 (by decide))
    obtain ⟨i, hh, hv⟩ := firstD_yes hb
    have hv2 : (cR nm wd ln ds bd 7).1 = (i : Int) := hv
    simp only [faultS, faultD, faultC, errC, Bool.true_eq_false, if_false, if_true, reduceIte, reduceCtorEq, Nat.reduceSub, hh, hv2, h0, h1, h2, h3, h4, h5, h6] <;> rfl
  · have h0 : formB nm wd ln ds bd = true := b_no (hprev 0 (by decide))
    have h1 : widthB wd = true := b_no (hprev 1 (by decide))
    have h2 : pow2B ln = true := b_no (hprev 2 (by decide))
    have h3 : ¬ 256 < ds.length := Nat.not_lt.2 (d_no (hprev 3 (by decide)))
    have h4 : firstN ds.length (twiceB ds) = none := firstD_no (hprev 4 (by decide))
    have h5 : firstN ds.length (sizeBad ds) = none := firstD_no (hprev 5 (by decide))
    have h6 : firstN ds.length (valuesBad ds) = none := firstD_no (hprev 6 (by decide))
    have h7 : firstN ds.length (rangeBad wd ds) = none := firstD_no (hprev 7 (by decide))
    have hh : 4096 < wordsS ds := Int.not_le.1 (d_yes hb)
    simp only [faultS, faultD, faultC, errC, Bool.true_eq_false, if_false, if_true, reduceIte, reduceCtorEq, Nat.reduceSub, hh, h0, h1, h2, h3, h4, h5, h6, h7] <;> rfl
  · have h0 : formB nm wd ln ds bd = true := b_no (hprev 0 (by decide))
    have h1 : widthB wd = true := b_no (hprev 1 (by decide))
    have h2 : pow2B ln = true := b_no (hprev 2 (by decide))
    have h3 : ¬ 256 < ds.length := Nat.not_lt.2 (d_no (hprev 3 (by decide)))
    have h4 : firstN ds.length (twiceB ds) = none := firstD_no (hprev 4 (by decide))
    have h5 : firstN ds.length (sizeBad ds) = none := firstD_no (hprev 5 (by decide))
    have h6 : firstN ds.length (valuesBad ds) = none := firstD_no (hprev 6 (by decide))
    have h7 : firstN ds.length (rangeBad wd ds) = none := firstD_no (hprev 7 (by decide))
    have h8 : ¬ 4096 < wordsS ds := Int.not_lt.2 (d_no (hprev 8 (by decide)))
    obtain ⟨i, hh, hv⟩ := firstS_yes hb
    have hv2 : (cR nm wd ln ds bd 9).1 = (i : Int) := hv
    have hh : firstBad wd ds (things ds bd) 10 = some i := hh
    simp only [faultS, faultD, faultC, errC, Bool.true_eq_false, if_false, if_true, reduceIte, reduceCtorEq, Nat.reduceSub, hh, hv2, h0, h1, h2, h3, h4, h5, h6, h7, h8] <;> rfl
  · have h0 : formB nm wd ln ds bd = true := b_no (hprev 0 (by decide))
    have h1 : widthB wd = true := b_no (hprev 1 (by decide))
    have h2 : pow2B ln = true := b_no (hprev 2 (by decide))
    have h3 : ¬ 256 < ds.length := Nat.not_lt.2 (d_no (hprev 3 (by decide)))
    have h4 : firstN ds.length (twiceB ds) = none := firstD_no (hprev 4 (by decide))
    have h5 : firstN ds.length (sizeBad ds) = none := firstD_no (hprev 5 (by decide))
    have h6 : firstN ds.length (valuesBad ds) = none := firstD_no (hprev 6 (by decide))
    have h7 : firstN ds.length (rangeBad wd ds) = none := firstD_no (hprev 7 (by decide))
    have h8 : ¬ 4096 < wordsS ds := Int.not_lt.2 (d_no (hprev 8 (by decide)))
    have h9 : firstBad wd ds (things ds bd) 10 = none := firstS_no (hprev 9 (by decide))
    obtain ⟨i, hh, hv⟩ := firstS_yes hb
    have hv2 : (cR nm wd ln ds bd 10).1 = (i : Int) := hv
    have hh : firstBad wd ds (things ds bd) 11 = some i := hh
    simp only [faultS, faultD, faultC, errC, Bool.true_eq_false, if_false, if_true, reduceIte, reduceCtorEq, Nat.reduceSub, hh, hv2, h0, h1, h2, h3, h4, h5, h6, h7, h8, h9] <;> rfl
  · have h0 : formB nm wd ln ds bd = true := b_no (hprev 0 (by decide))
    have h1 : widthB wd = true := b_no (hprev 1 (by decide))
    have h2 : pow2B ln = true := b_no (hprev 2 (by decide))
    have h3 : ¬ 256 < ds.length := Nat.not_lt.2 (d_no (hprev 3 (by decide)))
    have h4 : firstN ds.length (twiceB ds) = none := firstD_no (hprev 4 (by decide))
    have h5 : firstN ds.length (sizeBad ds) = none := firstD_no (hprev 5 (by decide))
    have h6 : firstN ds.length (valuesBad ds) = none := firstD_no (hprev 6 (by decide))
    have h7 : firstN ds.length (rangeBad wd ds) = none := firstD_no (hprev 7 (by decide))
    have h8 : ¬ 4096 < wordsS ds := Int.not_lt.2 (d_no (hprev 8 (by decide)))
    have h9 : firstBad wd ds (things ds bd) 10 = none := firstS_no (hprev 9 (by decide))
    have h10 : firstBad wd ds (things ds bd) 11 = none := firstS_no (hprev 10 (by decide))
    obtain ⟨i, hh, hv⟩ := firstS_yes hb
    have hv2 : (cR nm wd ln ds bd 11).1 = (i : Int) := hv
    have hh : firstBad wd ds (things ds bd) 12 = some i := hh
    simp only [faultS, faultD, faultC, errC, Bool.true_eq_false, if_false, if_true, reduceIte, reduceCtorEq, Nat.reduceSub, hh, hv2, h0, h1, h2, h3, h4, h5, h6, h7, h8, h9, h10] <;> rfl
  · have h0 : formB nm wd ln ds bd = true := b_no (hprev 0 (by decide))
    have h1 : widthB wd = true := b_no (hprev 1 (by decide))
    have h2 : pow2B ln = true := b_no (hprev 2 (by decide))
    have h3 : ¬ 256 < ds.length := Nat.not_lt.2 (d_no (hprev 3 (by decide)))
    have h4 : firstN ds.length (twiceB ds) = none := firstD_no (hprev 4 (by decide))
    have h5 : firstN ds.length (sizeBad ds) = none := firstD_no (hprev 5 (by decide))
    have h6 : firstN ds.length (valuesBad ds) = none := firstD_no (hprev 6 (by decide))
    have h7 : firstN ds.length (rangeBad wd ds) = none := firstD_no (hprev 7 (by decide))
    have h8 : ¬ 4096 < wordsS ds := Int.not_lt.2 (d_no (hprev 8 (by decide)))
    have h9 : firstBad wd ds (things ds bd) 10 = none := firstS_no (hprev 9 (by decide))
    have h10 : firstBad wd ds (things ds bd) 11 = none := firstS_no (hprev 10 (by decide))
    have h11 : firstBad wd ds (things ds bd) 12 = none := firstS_no (hprev 11 (by decide))
    obtain ⟨i, hh, hv⟩ := firstS_yes hb
    have hv2 : (cR nm wd ln ds bd 12).1 = (i : Int) := hv
    have hh : firstBad wd ds (things ds bd) 13 = some i := hh
    simp only [faultS, faultD, faultC, errC, Bool.true_eq_false, if_false, if_true, reduceIte, reduceCtorEq, Nat.reduceSub, hh, hv2, h0, h1, h2, h3, h4, h5, h6, h7, h8, h9, h10, h11] <;> rfl
  · have h0 : formB nm wd ln ds bd = true := b_no (hprev 0 (by decide))
    have h1 : widthB wd = true := b_no (hprev 1 (by decide))
    have h2 : pow2B ln = true := b_no (hprev 2 (by decide))
    have h3 : ¬ 256 < ds.length := Nat.not_lt.2 (d_no (hprev 3 (by decide)))
    have h4 : firstN ds.length (twiceB ds) = none := firstD_no (hprev 4 (by decide))
    have h5 : firstN ds.length (sizeBad ds) = none := firstD_no (hprev 5 (by decide))
    have h6 : firstN ds.length (valuesBad ds) = none := firstD_no (hprev 6 (by decide))
    have h7 : firstN ds.length (rangeBad wd ds) = none := firstD_no (hprev 7 (by decide))
    have h8 : ¬ 4096 < wordsS ds := Int.not_lt.2 (d_no (hprev 8 (by decide)))
    have h9 : firstBad wd ds (things ds bd) 10 = none := firstS_no (hprev 9 (by decide))
    have h10 : firstBad wd ds (things ds bd) 11 = none := firstS_no (hprev 10 (by decide))
    have h11 : firstBad wd ds (things ds bd) 12 = none := firstS_no (hprev 11 (by decide))
    have h12 : firstBad wd ds (things ds bd) 13 = none := firstS_no (hprev 12 (by decide))
    obtain ⟨i, hh, hv⟩ := firstS_yes hb
    have hv2 : (cR nm wd ln ds bd 13).1 = (i : Int) := hv
    have hh : firstBad wd ds (things ds bd) 14 = some i := hh
    simp only [faultS, faultD, faultC, errC, Bool.true_eq_false, if_false, if_true, reduceIte, reduceCtorEq, Nat.reduceSub, hh, hv2, h0, h1, h2, h3, h4, h5, h6, h7, h8, h9, h10, h11, h12] <;> rfl
  · have h0 : formB nm wd ln ds bd = true := b_no (hprev 0 (by decide))
    have h1 : widthB wd = true := b_no (hprev 1 (by decide))
    have h2 : pow2B ln = true := b_no (hprev 2 (by decide))
    have h3 : ¬ 256 < ds.length := Nat.not_lt.2 (d_no (hprev 3 (by decide)))
    have h4 : firstN ds.length (twiceB ds) = none := firstD_no (hprev 4 (by decide))
    have h5 : firstN ds.length (sizeBad ds) = none := firstD_no (hprev 5 (by decide))
    have h6 : firstN ds.length (valuesBad ds) = none := firstD_no (hprev 6 (by decide))
    have h7 : firstN ds.length (rangeBad wd ds) = none := firstD_no (hprev 7 (by decide))
    have h8 : ¬ 4096 < wordsS ds := Int.not_lt.2 (d_no (hprev 8 (by decide)))
    have h9 : firstBad wd ds (things ds bd) 10 = none := firstS_no (hprev 9 (by decide))
    have h10 : firstBad wd ds (things ds bd) 11 = none := firstS_no (hprev 10 (by decide))
    have h11 : firstBad wd ds (things ds bd) 12 = none := firstS_no (hprev 11 (by decide))
    have h12 : firstBad wd ds (things ds bd) 13 = none := firstS_no (hprev 12 (by decide))
    have h13 : firstBad wd ds (things ds bd) 14 = none := firstS_no (hprev 13 (by decide))
    obtain ⟨i, hh, hv⟩ := firstS_yes hb
    have hv2 : (cR nm wd ln ds bd 14).1 = (i : Int) := hv
    have hh : firstBad wd ds (things ds bd) 15 = some i := hh
    simp only [faultS, faultD, faultC, errC, Bool.true_eq_false, if_false, if_true, reduceIte, reduceCtorEq, Nat.reduceSub, hh, hv2, h0, h1, h2, h3, h4, h5, h6, h7, h8, h9, h10, h11, h12, h13] <;> rfl
  · have h0 : formB nm wd ln ds bd = true := b_no (hprev 0 (by decide))
    have h1 : widthB wd = true := b_no (hprev 1 (by decide))
    have h2 : pow2B ln = true := b_no (hprev 2 (by decide))
    have h3 : ¬ 256 < ds.length := Nat.not_lt.2 (d_no (hprev 3 (by decide)))
    have h4 : firstN ds.length (twiceB ds) = none := firstD_no (hprev 4 (by decide))
    have h5 : firstN ds.length (sizeBad ds) = none := firstD_no (hprev 5 (by decide))
    have h6 : firstN ds.length (valuesBad ds) = none := firstD_no (hprev 6 (by decide))
    have h7 : firstN ds.length (rangeBad wd ds) = none := firstD_no (hprev 7 (by decide))
    have h8 : ¬ 4096 < wordsS ds := Int.not_lt.2 (d_no (hprev 8 (by decide)))
    have h9 : firstBad wd ds (things ds bd) 10 = none := firstS_no (hprev 9 (by decide))
    have h10 : firstBad wd ds (things ds bd) 11 = none := firstS_no (hprev 10 (by decide))
    have h11 : firstBad wd ds (things ds bd) 12 = none := firstS_no (hprev 11 (by decide))
    have h12 : firstBad wd ds (things ds bd) 13 = none := firstS_no (hprev 12 (by decide))
    have h13 : firstBad wd ds (things ds bd) 14 = none := firstS_no (hprev 13 (by decide))
    have h14 : firstBad wd ds (things ds bd) 15 = none := firstS_no (hprev 14 (by decide))
    have hh : 65536 < sizeB bd := Nat.not_le.1 (d_yes hb)
    simp only [faultS, faultD, faultC, errC, Bool.true_eq_false, if_false, if_true, reduceIte, reduceCtorEq, Nat.reduceSub, hh, h0, h1, h2, h3, h4, h5, h6, h7, h8, h9, h10, h11, h12, h13, h14] <;> rfl
theorem faultS_none {nm : ByteArray} {wd ln : Int} {ds : List S44} {bd : List S77} (hprev : ∀ j, j < 16 → (cR nm wd ln ds bd j).2 = false) : faultS nm wd ln ds bd = ⟨0, 0, 0⟩ := by
  have h0 : formB nm wd ln ds bd = true := b_no (hprev 0 (by decide))
  have h1 : widthB wd = true := b_no (hprev 1 (by decide))
  have h2 : pow2B ln = true := b_no (hprev 2 (by decide))
  have h3 : ¬ 256 < ds.length := Nat.not_lt.2 (d_no (hprev 3 (by decide)))
  have h4 : firstN ds.length (twiceB ds) = none := firstD_no (hprev 4 (by decide))
  have h5 : firstN ds.length (sizeBad ds) = none := firstD_no (hprev 5 (by decide))
  have h6 : firstN ds.length (valuesBad ds) = none := firstD_no (hprev 6 (by decide))
  have h7 : firstN ds.length (rangeBad wd ds) = none := firstD_no (hprev 7 (by decide))
  have h8 : ¬ 4096 < wordsS ds := Int.not_lt.2 (d_no (hprev 8 (by decide)))
  have h9 : firstBad wd ds (things ds bd) 10 = none := firstS_no (hprev 9 (by decide))
  have h10 : firstBad wd ds (things ds bd) 11 = none := firstS_no (hprev 10 (by decide))
  have h11 : firstBad wd ds (things ds bd) 12 = none := firstS_no (hprev 11 (by decide))
  have h12 : firstBad wd ds (things ds bd) 13 = none := firstS_no (hprev 12 (by decide))
  have h13 : firstBad wd ds (things ds bd) 14 = none := firstS_no (hprev 13 (by decide))
  have h14 : firstBad wd ds (things ds bd) 15 = none := firstS_no (hprev 14 (by decide))
  have h15 : ¬ 65536 < sizeB bd := Nat.not_lt.2 (d_no (hprev 15 (by decide)))
  simp only [faultS, faultD, faultC, errC, Bool.true_eq_false, if_false, if_true, reduceIte, reduceCtorEq, Nat.reduceSub, h0, h1, h2, h3, h4, h5, h6, h7, h8, h9, h10, h11, h12, h13, h14, h15]
end Go.Proofs.Ytfcahachdpjfoaa.L
end
section
namespace Go.Proofs.Ytfcahachdpjfoaa.L
open Go.RowKit Go.Proofs.YtfcahachdpjfoaaW.PrintWords Go.Proofs.YtfcahachdpjfoaaW.PrintLast Go.Proofs.YtfcahachdpjfoaaW.PrintMore Go.Proofs.Ytfcahachdpjfoaa.Gr
set_option linter.unusedVariables false
set_option linter.unusedSimpArgs false
attribute [local go_sem] G.cell
theorem run_store_fn (P : Program) (w : World) (a : Addr) (m : Mode) (fn : Fn) (x y : Array Value) : (store a (.func fn x y) m).run P w = stored P w a (.func fn x y) m := run_store P w a _ m rfl
attribute [local go_sem] run_store_fn
def BoxAt (b : Nat) (W : World) : Prop := b + 17 ≤ W.heap.size ∧ ∀ i, i < 17 → W.heap[b + i]? = (clL b)[i]?
theorem BoxAt.below {b : Nat} {W W' : World} (h : BoxAt b W) (hb : Below W.heap.size W W') : BoxAt b W' :=
  ⟨Nat.le_trans h.1 hb.size, fun i hi => (hb.block (b + i) (by have := h.1; omega)).trans (h.2 i hi)⟩
theorem run_enter {f : FuncId} {fn : Func} {c : Code} (hf : Try.prog.funcs[f]? = some fn) (hname : (fn.name == "runtime.NumGoroutine") = false) (hb : fn.body = some c) (args : Array Value) (w : World) : (callFunc f args).run Try.prog w = .ok (.enter f args) w := by
  have h1 : fn.name ≠ "runtime.NumGoroutine" := by simpa using hname
  simp [callFunc, hf, h1, hb]
theorem enter87 (args : Array Value) (w : World) : (callFunc 87 args).run Try.prog w = .ok (.enter 87 args) w := run_enter Try.func87 (by kernel_rfl) rfl args w
theorem enter91 (args : Array Value) (w : World) : (callFunc 91 args).run Try.prog w = .ok (.enter 91 args) w := run_enter Try.func91 (by kernel_rfl) rfl args w
theorem enter93 (args : Array Value) (w : World) : (callFunc 93 args).run Try.prog w = .ok (.enter 93 args) w := run_enter Try.func93 (by kernel_rfl) rfl args w
theorem cF_cases {k : Nat} (hk : k < 16) : cF k = 87 ∨ cF k = 91 ∨ cF k = 93 := by
  have hcs : k = 0 ∨ k = 1 ∨ k = 2 ∨ k = 3 ∨ k = 4 ∨ k = 5 ∨ k = 6 ∨ k = 7 ∨ k = 8 ∨ k = 9 ∨ k = 10 ∨ k = 11 ∨ k = 12 ∨ k = 13 ∨ k = 14 ∨ k = 15 := by omega
  rcases hcs with rfl | rfl | rfl | rfl | rfl | rfl | rfl | rfl | rfl | rfl | rfl | rfl | rfl | rfl | rfl | rfl <;> decide
theorem enterF {k : Nat} (hk : k < 16) (args : Array Value) (w : World) : (callFunc (cF k) args).run Try.prog w = .ok (.enter (cF k) args) w := by
  rcases cF_cases hk with h | h | h <;> rw [h]
  · exact enter87 args w
  · exact enter91 args w
  · exact enter93 args w
def RowAt (b : Nat) (adr : Addr) (W : World) : Prop := adr = ⟨b + 16, 0, none⟩ ∧ BoxAt b W
theorem RowAt.below {b : Nat} {adr : Addr} {W W' : World} (h : RowAt b adr W) (hb : Below W.heap.size W W') : RowAt b adr W' := ⟨h.1, h.2.below hb⟩
theorem RowAt.at {b : Nat} {adr : Addr} {W : World} (h : RowAt b adr W) {k : Nat} (hk : k < 16) : W.cell? (adr.add (k * 2)) = some (.int .i64 (cE k)) ∧ W.cell? ⟨(adr.add (k * 2)).block, (adr.add (k * 2)).off + 1, none⟩ = some (.func (.func (cF k)) #[] #[.pointer (some ⟨b + k, 0, none⟩)]) := by
  obtain ⟨rfl, hb⟩ := h
  have q := hb.2 16 (by decide)
  have hcs : k = 0 ∨ k = 1 ∨ k = 2 ∨ k = 3 ∨ k = 4 ∨ k = 5 ∨ k = 6 ∨ k = 7 ∨ k = 8 ∨ k = 9 ∨ k = 10 ∨ k = 11 ∨ k = 12 ∨ k = 13 ∨ k = 14 ∨ k = 15 := by omega
  rcases hcs with rfl | rfl | rfl | rfl | rfl | rfl | rfl | rfl | rfl | rfl | rfl | rfl | rfl | rfl | rfl | rfl <;> exact ⟨(blk_cell q _).trans rfl, (blk_cell q _).trans rfl⟩
theorem clauses_v {w : World} (g : G w) : Calls Try.prog 27 #[] g.W fun e w' => ∃ (b : Nat) (adr : Addr) (g' : G w), e = .returned (.slice (some adr) 16 16) ∧ w' = g'.W ∧ RowAt b adr g'.W := by
  refine (clauses_calls g.W).mono ?_
  rintro _ _ ⟨rfl, rfl⟩
  have hb := below_allocs (clL g.W.heap.size) g.W
  refine ⟨g.W.heap.size, ⟨g.W.heap.size + 16, 0, none⟩, ⟨_, g.below.trans (hb.mono g.below.size)⟩, rfl, rfl, rfl, ?_, fun i hi => heap_allocs _ _ i (by simpa [clL] using hi)⟩
  have q := heap_allocs (clL g.W.heap.size) g.W 16 (by simp [clL])
  have := blk_lt (q.trans (show (clL g.W.heap.size)[16]? = some _ from rfl))
  show g.W.heap.size + 17 ≤ ((clL g.W.heap.size).foldl World.alloc g.W).heap.size
  omega
set_option maxHeartbeats 1000000 in
set_option maxRecDepth 100000 in
theorem fault_calls (nm : ByteArray) (wd ln : Int) (ds : List S44) (bd : List S77) (A3 : Option Addr) (c3 : Nat) (A4 : Option Addr) (c4 : Nat) (W : World) (hp : ProgAt W ds bd A3 c3 A4 c4) (hg : PGood nm wd ln ds bd) (r : Ans) (hr : r = faultS nm wd ln ds bd) :
    Calls Try.prog 10 #[.agg #[.string nm, .int .i64 wd, .int .i64 ln, .slice A3 ds.length c3, .slice A4 bd.length c4]] W fun e w' => e = .returned (.tuple #[.int .i64 r.c, .int .i64 r.at', .int .i64 r.e]) ∧ Below W.heap.size W w' := by
  have gout : ∀ {o : Obj} (g : G (W.alloc o)), Below W.heap.size W g.W := fun g => ((Below.refl _ _).alloc (Nat.le_refl _) _).trans (g.below.mono (by simp))
  have PAt := Aside0.mk hp
  have HR := Aside0.mk hr
  have HG := Aside0.mk hg
  clear hp hr hg
  go_enter Try.func10, Try.ntmps10
  go_upto_region 1 with (fail)
  refine wp_grown0 ?_
  intro gg
  have goutW : ∀ (g : G (gw0 gg)), Below W.heap.size W g.W := fun g => gout g
  go_wp2_with fail
  refine (clauses_v gg).mono ?_
  rintro _ _ ⟨b, adr, gg, rfl, rfl, hrow⟩
  have HB := Aside0.mk hrow
  clear hrow
  go_wp2_with fail
  go_loopw [11] (fun i X => ∃ (k : Nat) (g : G (gw0 gg)), i = .int .i64 k ∧ X = g.W ∧ k ≤ 16 ∧ Aside0 (RowAt b adr g.W ∧ ∀ j, j < k → (cR nm wd ln ds bd j).2 = false)) (fun i _ => 16 - (intOf i).toNat)
  case atStart => exact ⟨0, gg, rfl, rfl, Nat.zero_le _, ⟨HB.out, fun j hj => absurd hj (Nat.not_lt_zero _)⟩⟩
  case round =>
    obtain ⟨k, gx, rfl, rfl, hk, HK⟩ := hrel
    by_cases hlt : k < 16
    · have hk1 : (k : Int) < 16 := by omega
      obtain ⟨fn, hfn⟩ : ∃ fn, fn = cF k := ⟨_, rfl⟩
      obtain ⟨er, her⟩ : ∃ er, er = cE k := ⟨_, rfl⟩
      obtain ⟨q0, q1⟩ := HK.out.1.at hlt
      have hent := enterF hlt
      rw [← hfn] at q1 hent
      rw [← her] at q0
      have HF := Aside0.mk (And.intro hfn her)
      clear hfn her
      go_upto_region 4 with (fail)
      refine wp_grown0 ?_
      intro g2
      have goutX : ∀ (g : G (gw0 g2)), Below gx.W.heap.size gx.W g.W := fun g => ((Below.refl _ _).alloc (Nat.le_refl _) _).trans (g.below.mono (by simp [gw0]))
      have KB : ∀ g : G (gw0 g2), g.W.heap[W.heap.size]? = some (.cells #[.string nm, .int .i64 wd, .int .i64 ln, .slice A3 ds.length c3, .slice A4 bd.length c4] 29 (0, 0)) := fun g => blk_below (blk_below (blk_new _ _) gx.below) (goutX g)
      have z0 : ∀ g : G (gw0 g2), g.W.cell? ⟨W.heap.size, 0, none⟩ = some (.string nm) := fun g => (blk_cell (KB g) 0).trans rfl
      have z1 : ∀ g : G (gw0 g2), g.W.cell? ⟨W.heap.size, 1, none⟩ = some (.int .i64 wd) := fun g => (blk_cell (KB g) 1).trans rfl
      have z2 : ∀ g : G (gw0 g2), g.W.cell? ⟨W.heap.size, 2, none⟩ = some (.int .i64 ln) := fun g => (blk_cell (KB g) 2).trans rfl
      have z3 : ∀ g : G (gw0 g2), g.W.cell? ⟨W.heap.size, 3, none⟩ = some (.slice A3 ds.length c3) := fun g => (blk_cell (KB g) 3).trans rfl
      have z4 : ∀ g : G (gw0 g2), g.W.cell? ⟨W.heap.size, 4, none⟩ = some (.slice A4 bd.length c4) := fun g => (blk_cell (KB g) 4).trans rfl
      clear KB
      have goutY : ∀ (g : G (gw0 g2)), Below (gw0 gg).heap.size (gw0 gg) g.W := fun g => (gx.below.alloc gx.below.size _).trans (g.below.mono (Nat.le_trans gx.below.size (by simp [gw0])))
      obtain ⟨p, hp⟩ : ∃ p, p = cR nm wd ln ds bd k := ⟨_, rfl⟩
      have C := clause_calls nm wd ln ds bd A3 c3 A4 c4 b g2.W (PAt.out.below ((goutW gx).trans ((goutX g2).mono (goutW gx).size))) HG.out (fun i hi => ((HK.out.1.below (goutX g2)).2.2 i (by omega))) k hlt HK.out.2
      rw [← HF.out.1, ← hp] at C
      have HC := Aside0.mk C
      have HP := Aside0.mk hp
      clear C hp
      go_wp2_with fail
      refine (call_of (g := g2) HC.out).mono ?_
      rintro _ _ ⟨rfl, g2, rfl⟩
      rcases bcases p.2 with hb | hb
      · have HBB := Aside0.mk hb
        go_wp2_with fail
        have y0 : ∀ g : G g2.W, g.W.cell? ⟨gx.W.heap.size, 0, none⟩ = some (.int .i64 er) := fun g => (blk_cell (blk_below (blk_below (blk_new _ _) g2.below) g.below) 0).trans rfl
        refine wp_region_grown (by kernel_rfl) (by kernel_rfl) ?_
        repeat go_big_quiet_step (fail)
        refine wpQuiet_nil ?_
        rintro _ ⟨gz, rfl⟩
        go_wp2_with fail
        go_ret3
        have e : r = ⟨(k : Int) + 1, p.1, er⟩ := by
          rw [HR.out, faultS_at hlt HK.out.2 (HP.out ▸ HBB.out), HF.out.2, HP.out]
        exact ⟨fault_ret e, (goutW gx).trans (((goutX g2).trans (gz.below.mono (goutX g2).size)).mono (goutW gx).size)⟩
      · have HBB := Aside0.mk hb
        go_wp2_with fail
        exact ⟨⟨k + 1, mkG (goutY g2), by go_num, rfl, by omega, ⟨HK.out.1.below (goutX g2), fun j hj => (Decidable.em (j = k)).elim (fun h => h ▸ HP.out ▸ HBB.out) (fun h => HK.out.2 j (by omega))⟩⟩, by simp [intOf]; omega⟩
    · have hk1 : ¬ (k : Int) < 16 := by omega
      go_wp2_with fail
      go_ret3
      have e : r = ⟨0, 0, 0⟩ := by rw [HR.out, faultS_none fun j hj => HK.out.2 j (by omega)]
      exact ⟨fault_ret e, goutW _⟩
end Go.Proofs.Ytfcahachdpjfoaa.L
end
section
namespace Go.Proofs.Ytfcahachdpjfoaa.L
open Go.RowKit Go.Proofs.YtfcahachdpjfoaaW.PrintWords Go.Proofs.YtfcahachdpjfoaaW.PrintLast Go.Proofs.YtfcahachdpjfoaaW.PrintMore Go.Proofs.Ytfcahachdpjfoaa.Gr
set_option linter.unusedVariables false
set_option linter.unusedSimpArgs false
attribute [local go_sem] G.cell
theorem size_le {nm : ByteArray} {wd ln : Int} {ds : List S44} {bd : List S77} (h : (faultS nm wd ln ds bd).e = 0) : sizeB bd ≤ 65536 := by
  rcases firstN_cases 16 (fun k => (cR nm wd ln ds bd k).2) with ⟨_, h2⟩ | ⟨i, h0, h1, h2, h3⟩
  · exact d_no (h2 15 (by decide))
  · rw [faultS_at h0 h3 h2] at h
    exfalso
    revert h
    have hcs : i = 0 ∨ i = 1 ∨ i = 2 ∨ i = 3 ∨ i = 4 ∨ i = 5 ∨ i = 6 ∨ i = 7 ∨ i = 8 ∨ i = 9 ∨ i = 10 ∨ i = 11 ∨ i = 12 ∨ i = 13 ∨ i = 14 ∨ i = 15 := by omega
    rcases hcs with rfl | rfl | rfl | rfl | rfl | rfl | rfl | rfl | rfl | rfl | rfl | rfl | rfl | rfl | rfl | rfl <;> intro h <;> cases h
set_option maxHeartbeats 1000000 in
set_option maxRecDepth 100000 in
theorem check_calls (nm : ByteArray) (wd ln : Int) (ds : List S44) (bd : List S77) (A3 : Option Addr) (c3 : Nat) (A4 : Option Addr) (c4 : Nat) (w : World) (hp : ProgAt w ds bd A3 c3 A4 c4) (hg : PGood nm wd ln ds bd) (r : Ans) (hr : r = faultS nm wd ln ds bd) :
    Calls Try.prog 15 #[.agg #[.string nm, .int .i64 wd, .int .i64 ln, .slice A3 ds.length c3, .slice A4 bd.length c4]] w fun e w' => e = .returned (.int .i64 r.e) ∧ Below w.heap.size w w' := by
  have gout : ∀ {o : Obj} (g : G (w.alloc o)), Below w.heap.size w g.W := fun g => ((Below.refl _ _).alloc (Nat.le_refl _) _).trans (g.below.mono (by simp))
  have PAt := Aside0.mk hp
  have HR := Aside0.mk hr
  have HG := Aside0.mk hg
  clear hp hr hg
  go_enter Try.func15, Try.ntmps15
  go_upto_region 1 with (fail)
  refine wp_grown0 ?_
  intro gg
  go_wp2_with fail
  refine (call_of (g := gg) (fault_calls nm wd ln ds bd A3 c3 A4 c4 gg.W (PAt.out.below (gout gg)) HG.out r HR.out)).mono ?_
  rintro _ _ ⟨rfl, gg, rfl⟩
  go_wp2_with fail
  go_ret
  exact ⟨rfl, gout _⟩
set_option maxHeartbeats 1000000 in
set_option maxRecDepth 100000 in
theorem size_calls (nm : ByteArray) (wd ln : Int) (ds : List S44) (bd : List S77) (A3 : Option Addr) (c3 : Nat) (A4 : Option Addr) (c4 : Nat) (w : World) (hp : ProgAt w ds bd A3 c3 A4 c4) (hg : PGood nm wd ln ds bd) (r : Int × Int) (hr : r = sizeS 1099511627776 nm wd ln ds bd) :
    Calls Try.prog 12 #[.agg #[.string nm, .int .i64 wd, .int .i64 ln, .slice A3 ds.length c3, .slice A4 bd.length c4]] w fun e w' => e = .returned (.tuple #[.int .i64 r.1, .int .i64 r.2]) ∧ Below w.heap.size w w' := by
  have gout : ∀ {o : Obj} (g : G (w.alloc o)), Below w.heap.size w g.W := fun g => ((Below.refl _ _).alloc (Nat.le_refl _) _).trans (g.below.mono (by simp))
  have PAt := Aside0.mk hp
  have HR := Aside0.mk hr
  have HG := Aside0.mk hg
  clear hp hr hg
  obtain ⟨f, hf⟩ : ∃ f, f = faultS nm wd ln ds bd := ⟨_, rfl⟩
  have HF := Aside0.mk hf
  clear hf
  go_enter Try.func12, Try.ntmps12
  go_upto_region 1 with (fail)
  refine wp_grown0 ?_
  intro gg
  go_wp2_with fail
  refine (call_of (g := gg) (check_calls nm wd ln ds bd A3 c3 A4 c4 gg.W (PAt.out.below (gout gg)) HG.out f HF.out)).mono ?_
  rintro _ _ ⟨rfl, gg, rfl⟩
  by_cases h : f.e = 0
  · have H := Aside0.mk h
    have b : (f.e != 0) = false := by simp [h]
    clear h
    obtain ⟨m, hm⟩ : ∃ m, m = min (sizeB bd) 1099511627776 := ⟨_, rfl⟩
    have HM := Aside0.mk hm
    clear hm
    go_wp2_with fail
    refine (call_of (g := gg) (size_v (wsize_calls _ bd (Nat.le_refl _) ((Ot.goodTs_iff bd).2 HG.out.good.bd) HG.out.sizes.2) HM.out A4 c4 gg.W (Kd.C_below PAt.out.hb (gout gg)) PAt.out.hlb)).mono ?_
    rintro _ _ ⟨rfl, gg, rfl⟩
    go_wp2_with fail
    go_ret2
    have e : r = ((m : Int), 0) := by rw [HR.out, sizeS, ← HF.out, if_pos H.out, HM.out]
    exact ⟨ret_two (by rw [e]) (by rw [e]), gout _⟩
  · have H := Aside0.mk h
    have b := bn h
    clear h
    go_wp2_with fail
    go_ret2
    have e : r = (0, f.e) := by rw [HR.out, sizeS, ← HF.out, if_neg H.out]
    exact ⟨ret_two (by rw [e]) (by rw [e]), gout _⟩
end Go.Proofs.Ytfcahachdpjfoaa.L
end
section
namespace Go.Proofs.Ytfcahachdpjfoaa.L
open Go.RowKit Go.Proofs.YtfcahachdpjfoaaW.PrintWords Go.Proofs.YtfcahachdpjfoaaW.PrintLast Go.Proofs.YtfcahachdpjfoaaW.PrintMore Go.Proofs.Ytfcahachdpjfoaa.Gr
set_option linter.unusedVariables false
set_option linter.unusedSimpArgs false
def exN (s : ByteArray) : S75 := ⟨2, 0, s, []⟩
def liveD : List S44 := [⟨5, ⟨#[120]⟩, 0, []⟩]
def liveA : S75 := ⟨9, 0, ⟨#[]⟩, [exN ⟨#[120]⟩, exN ⟨#[105]⟩]⟩
def liveS : S77 := ⟨1, ⟨#[120]⟩, z75, liveA, 0, 0, [], []⟩
def liveB : List S77 := [⟨4, ⟨#[105]⟩, z75, z75, 0, 4, [liveS], []⟩]
def liveQ : List S77 := [⟨1, ⟨#[120]⟩, z75, exN ⟨#[121]⟩, 0, 0, [], []⟩]
theorem live_size : sizeS 1099511627776 ⟨#[112]⟩ 32 1 liveD liveB = (21, 0) := by decide +kernel
theorem live_fault : faultS ⟨#[112]⟩ 32 1 liveD liveB = ⟨0, 0, 0⟩ := ans_eq (by decide +kernel) (by decide +kernel) (by decide +kernel)
theorem live_faultQ : faultS ⟨#[112]⟩ 32 1 liveD liveQ = ⟨11, 2, 161⟩ := ans_eq (by decide +kernel) (by decide +kernel) (by decide +kernel)
theorem okI_of {n : Int} (h : (Lit.int .i64 n).wf = true) : Ot.okI n := h
theorem liveD_good : ∀ d ∈ liveD, Ot.goodD d := by
  intro d hd
  rcases List.mem_singleton.1 hd with rfl
  exact ⟨by decide, by decide, by decide, by decide, fun v hv => by cases hv⟩
theorem live_good : PGood ⟨#[112]⟩ 32 1 liveD liveB := by
  refine ⟨⟨by decide, by decide, by decide, by decide, liveD_good, by decide, (Ot.goodTs_iff _).1 ?_⟩, by decide +kernel⟩
  simp only [liveB, liveS, liveA, exN, z75, Ot.goodTs, Ot.goodT, Ot.goodE, Ot.goodEs, and_true]
  decide
theorem live_goodQ : PGood ⟨#[112]⟩ 32 1 liveD liveQ := by
  refine ⟨⟨by decide, by decide, by decide, by decide, liveD_good, by decide, (Ot.goodTs_iff _).1 ?_⟩, by decide +kernel⟩
  simp only [liveQ, exN, z75, Ot.goodTs, Ot.goodT, Ot.goodE, Ot.goodEs, and_true]
  decide
theorem blk_C {α : Type} {k : Kd α} {w : World} {b : Nat} {cells : Array Value} {e : TypeId} (hb : w.heap[b]? = some (.cells cells e (0, 0))) {xs : List α} (hm : xs.length ≤ 9223372036854775807)
    (h : ∀ (i : Nat) x, xs[i]? = some x → ∃ cs, k.K w x cs ∧ ∀ (j : Nat) u, cs[j]? = some u → cells[i * k.sz + j]? = some u) : Kd.C k w (some ⟨b, 0, none⟩) xs.length xs := by
  refine ⟨rfl, hm, fun _ => ⟨_, rfl, fun i x hx => ?_⟩⟩
  obtain ⟨cs, h1, h2⟩ := h i x hx
  refine ⟨cs, k.K_len h1, h1, fun j u hu => ?_⟩
  have h3 := h2 j u hu
  rw [add_at, Nat.zero_add]
  exact (blk_cell hb _).trans h3
theorem blk_C1 {α : Type} {k : Kd α} {w : World} {b : Nat} {cs : List Value} {e : TypeId} {x : α} (hb : w.heap[b]? = some (.cells cs.toArray e (0, 0))) (hx : k.K w x cs) : Kd.C k w (some ⟨b, 0, none⟩) 1 [x] := by
  refine blk_C (xs := [x]) hb (by simp) fun i y hy => ?_
  rcases i with _ | i
  · simp only [List.getElem?_cons_zero, Option.some.injEq] at hy
    subst hy
    exact ⟨cs, hx, fun j u hu => by simpa using hu⟩
  · simp at hy
theorem blk_C2 {α : Type} {k : Kd α} {w : World} {b : Nat} {cs cs2 : List Value} {e : TypeId} {x y : α} (hb : w.heap[b]? = some (.cells (cs ++ cs2).toArray e (0, 0))) (hx : k.K w x cs) (hy : k.K w y cs2) : Kd.C k w (some ⟨b, 0, none⟩) 2 [x, y] := by
  refine blk_C (xs := [x, y]) hb (by simp) fun i z hz => ?_
  rcases i with _ | _ | i
  · simp only [List.getElem?_cons_zero, Option.some.injEq] at hz
    subst hz
    refine ⟨cs, hx, fun j u hu => ?_⟩
    have hj := (List.getElem?_eq_some_iff.1 hu).1
    simp only [Nat.zero_mul, Nat.zero_add, List.getElem?_toArray]
    rw [List.getElem?_append_left hj]; exact hu
  · simp only [List.getElem?_cons_succ, List.getElem?_cons_zero, Option.some.injEq] at hz
    subst hz
    refine ⟨cs2, hy, fun j u hu => ?_⟩
    simp only [Nat.zero_add, Nat.one_mul, List.getElem?_toArray]
    rw [← k.K_len hx, List.getElem?_append_right (by omega), Nat.add_sub_cancel_left]; exact hu
  · simp at hz
section
variable {X : World} {d k s f : Nat}
theorem live_decls (hd : X.heap[d]? = some (.cells #[.int .i64 5, .string ⟨#[120]⟩, .int .i64 0, .slice none 0 0] 44 (0, 0))) : Kd.C k44 X (some ⟨d, 0, none⟩) 1 liveD :=
  blk_C1 hd (k44_mk X ⟨5, ⟨#[120]⟩, 0, []⟩ (A3 := none) (c3 := 0) (Nat.le_refl _) (C_nil _ X))
theorem exN_mk (X : World) (t : ByteArray) : k75.K X (exN t) [.int .i64 2, .int .u64 0, .string t, .slice none 0 0] := k75_mk X (exN t) (A3 := none) (c3 := 0) (Nat.le_refl _) (C_nil k75 X)
theorem live_at (hd : X.heap[d]? = some (.cells #[.int .i64 5, .string ⟨#[120]⟩, .int .i64 0, .slice none 0 0] 44 (0, 0)))
    (hk : X.heap[k]? = some (.cells #[.int .i64 2, .int .u64 0, .string ⟨#[120]⟩, .slice none 0 0, .int .i64 2, .int .u64 0, .string ⟨#[105]⟩, .slice none 0 0] 75 (0, 0)))
    (hs : X.heap[s]? = some (.cells #[.int .i64 1, .string ⟨#[120]⟩, .int .i64 0, .int .u64 0, .string ⟨#[]⟩, .slice none 0 0, .int .i64 9, .int .u64 0, .string ⟨#[]⟩, .slice (some ⟨k, 0, none⟩) 2 2, .int .u64 0, .int .u64 0, .slice none 0 0, .slice none 0 0] 77 (0, 0)))
    (hf : X.heap[f]? = some (.cells #[.int .i64 4, .string ⟨#[105]⟩, .int .i64 0, .int .u64 0, .string ⟨#[]⟩, .slice none 0 0, .int .i64 0, .int .u64 0, .string ⟨#[]⟩, .slice none 0 0, .int .u64 0, .int .u64 4, .slice (some ⟨s, 0, none⟩) 1 1, .slice none 0 0] 77 (0, 0))) :
    ProgAt X liveD liveB (some ⟨d, 0, none⟩) 1 (some ⟨f, 0, none⟩) 1 := by
  refine ⟨live_decls hd, Nat.le_refl _, ?_, Nat.le_refl _⟩
  have h1 : Kd.C k75 X (some ⟨k, 0, none⟩) 2 [exN ⟨#[120]⟩, exN ⟨#[105]⟩] := blk_C2 hk (exN_mk X _) (exN_mk X _)
  have h2 : Kd.C k77 X (some ⟨s, 0, none⟩) 1 [liveS] := blk_C1 hs (k77_mk X liveS (A5 := none) (c5 := 0) (Nat.le_refl _) (C_nil _ X) (A9 := some ⟨k, 0, none⟩) (c9 := 2) (Nat.le_refl _) h1 (A12 := none) (c12 := 0) (Nat.le_refl _) (C_nil _ X) (A13 := none) (c13 := 0) (Nat.le_refl _) (C_nil _ X))
  exact blk_C1 hf (k77_mk X ⟨4, ⟨#[105]⟩, z75, z75, 0, 4, [liveS], []⟩ (A5 := none) (c5 := 0) (Nat.le_refl _) (C_nil _ X) (A9 := none) (c9 := 0) (Nat.le_refl _) (C_nil _ X) (A12 := some ⟨s, 0, none⟩) (c12 := 1) (Nat.le_refl _) h2 (A13 := none) (c13 := 0) (Nat.le_refl _) (C_nil _ X))
theorem live_atQ (hd : X.heap[d]? = some (.cells #[.int .i64 5, .string ⟨#[120]⟩, .int .i64 0, .slice none 0 0] 44 (0, 0)))
    (hs : X.heap[s]? = some (.cells #[.int .i64 1, .string ⟨#[120]⟩, .int .i64 0, .int .u64 0, .string ⟨#[]⟩, .slice none 0 0, .int .i64 2, .int .u64 0, .string ⟨#[121]⟩, .slice none 0 0, .int .u64 0, .int .u64 0, .slice none 0 0, .slice none 0 0] 77 (0, 0))) :
    ProgAt X liveD liveQ (some ⟨d, 0, none⟩) 1 (some ⟨s, 0, none⟩) 1 :=
  ⟨live_decls hd, Nat.le_refl _, blk_C1 hs (k77_mk X ⟨1, ⟨#[120]⟩, z75, exN ⟨#[121]⟩, 0, 0, [], []⟩ (A5 := none) (c5 := 0) (Nat.le_refl _) (C_nil _ X) (A9 := none) (c9 := 0) (Nat.le_refl _) (C_nil _ X) (A12 := none) (c12 := 0) (Nat.le_refl _) (C_nil _ X) (A13 := none) (c13 := 0) (Nat.le_refl _) (C_nil _ X)), Nat.le_refl _⟩
end
end Go.Proofs.Ytfcahachdpjfoaa.L
end
