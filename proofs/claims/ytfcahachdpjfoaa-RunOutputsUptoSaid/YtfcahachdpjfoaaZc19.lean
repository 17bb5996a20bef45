/- Texts joined by a program of mine: Uq Ya Yb Sf Td Sg. -/
import Derived.Test.YtfcahachdpjfoaaZc10
import Derived.Test.YtfcahachdpjfoaaZc13
import Derived.Test.YtfcahachdpjfoaaZc14
import Derived.Test.YtfcahachdpjfoaaZc18
section
namespace Go.Proofs.Ytfcahachdpjfoaa.L
open Go.RowKit Go.Proofs.YtfcahachdpjfoaaW.PrintWords Go.Proofs.YtfcahachdpjfoaaW.PrintLast Go.Proofs.YtfcahachdpjfoaaW.PrintMore Go.Proofs.Ytfcahachdpjfoaa.Gr
set_option linter.unusedVariables false
set_option linter.unusedSimpArgs false
def KW : Th → Prop
  | .decl _ => True
  | .stmt s _ _ => 1 ≤ s.f0 ∧ s.f0 ≤ 5
  | .expr e _ => weightE e ≤ 8388608
mutual
theorem kw_exTh : ∀ (e : S75) (lo : List ByteArray), weightE e ≤ 8388608 → ∀ t ∈ exTh e lo, KW t
  | ⟨a, b, s, l⟩, lo, h, t, ht => by
    rw [exTh] at ht
    rcases List.mem_cons.1 ht with rfl | ht
    · exact h
    · rw [weightE] at h
      exact kw_exThs l lo (by omega) t ht
theorem kw_exThs : ∀ (l : List S75) (lo : List ByteArray), weightL l ≤ 8388608 → ∀ t ∈ exThs l lo, KW t
  | [], _, _, t, ht => by rw [exThs] at ht; cases ht
  | x :: r, lo, h, t, ht => by
    rw [weightL] at h
    rw [exThs] at ht
    rcases List.mem_append.1 ht with ht | ht
    · exact kw_exTh x lo (by omega) t ht
    · exact kw_exThs r lo (by omega) t ht
end
mutual
theorem kw_stTh : ∀ (x : S77) (d : Nat) (lo : List ByteArray), stB x = true → Ot.bulkT x ≤ 1048576 → ∀ t ∈ stTh x d lo, KW t
  | ⟨k, nm, e, f, l, h, th, el⟩, d, lo, hs, hb, t, ht => by
    have F := st_form hs
    rw [Ot.bulkT] at hb
    rw [stTh] at ht
    have h1 := weight_bulk e
    have h2 := weight_bulk f
    rcases List.mem_cons.1 ht with rfl | ht
    · exact ⟨F.1, F.2.1⟩
    · rcases List.mem_append.1 ht with ht | ht
      · rcases List.mem_append.1 ht with ht | ht
        · split at ht
          · exact kw_exTh e lo (by omega) t ht
          · cases ht
        · split at ht
          · exact kw_exTh f lo (by omega) t ht
          · cases ht
      · rcases List.mem_append.1 ht with ht | ht
        · exact kw_stThs th _ _ F.2.2.2.2.1 (by omega) t ht
        · exact kw_stThs el _ _ F.2.2.2.2.2 (by omega) t ht
theorem kw_stThs : ∀ (l : List S77) (d : Nat) (lo : List ByteArray), bdB l = true → Ot.bulkTs l ≤ 1048576 → ∀ t ∈ stThs l d lo, KW t
  | [], _, _, _, _, t, ht => by rw [stThs] at ht; cases ht
  | x :: r, d, lo, hs, hb, t, ht => by
    rw [bdB_all, List.all_cons, Bool.and_eq_true, ← bdB_all] at hs
    rw [Ot.bulkTs] at hb
    rw [stThs] at ht
    rcases List.mem_append.1 ht with ht | ht
    · exact kw_stTh x d lo hs.1 (by omega) t ht
    · exact kw_stThs r d lo hs.2 (by omega) t ht
end
theorem rw_things {ds : List S44} {bd : List S77} (h : ∀ t ∈ bd, Ot.goodT t) (hf : bdB bd = true) (hb : Ot.bulkTs bd ≤ 1048576) : ∀ t ∈ things ds bd, RW t := by
  intro t ht
  have h1 := good_things (ds := ds) h t ht
  have h2 : KW t := by
    unfold things at ht
    rcases List.mem_append.1 ht with ht | ht
    · obtain ⟨i, _, rfl⟩ := List.mem_map.1 ht
      trivial
    · exact kw_stThs bd 1 [] hf hb t ht
  cases t with
  | decl i => exact ⟨⟨h1, trivial⟩, trivial⟩
  | stmt s d l => exact ⟨⟨h1, h2⟩, trivial⟩
  | expr e l => exact ⟨⟨h1, trivial⟩, h2⟩
theorem firstS_no {f : Th → Bool} {l : List Th} (h : (firstS f l).2 = false) : firstN l.length (fun i => f (thAt l i)) = none := by
  unfold firstS at h
  cases e : firstN l.length (fun i => f (thAt l i)) with
  | none => rfl
  | some i => rw [e] at h; cases h
theorem firstS_yes {f : Th → Bool} {l : List Th} (h : (firstS f l).2 = true) : ∃ i : Nat, firstN l.length (fun i => f (thAt l i)) = some i ∧ (firstS f l).1 = (i : Int) := by
  unfold firstS at h ⊢
  cases e : firstN l.length (fun i => f (thAt l i)) with
  | none => rw [e] at h; cases h
  | some i => exact ⟨i, rfl, rfl⟩
theorem firstD_no {f : Nat → Bool} {n : Nat} (h : (firstD f n).2 = false) : firstN n f = none := by
  unfold firstD at h
  cases e : firstN n f with
  | none => rfl
  | some i => rw [e] at h; cases h
theorem firstD_yes {f : Nat → Bool} {n : Nat} (h : (firstD f n).2 = true) : ∃ i : Nat, firstN n f = some i ∧ (firstD f n).1 = (i : Int) := by
  unfold firstD at h ⊢
  cases e : firstN n f with
  | none => rw [e] at h; cases h
  | some i => exact ⟨i, rfl, rfl⟩
theorem firstN_all {n : Nat} {f : Nat → Bool} (h : firstN n f = none) : ∀ j, j < n → f j = false := by
  rcases firstN_cases n f with ⟨_, h2⟩ | ⟨i, _, h1, _, _⟩
  · exact h2
  · rw [h] at h1; cases h1
theorem firstS_mem {f : Th → Bool} {l : List Th} (h : (firstS f l).2 = false) : ∀ t ∈ l, f t = false := by
  intro t ht
  obtain ⟨i, hi, rfl⟩ := List.getElem_of_mem ht
  have := firstN_all (firstS_no h) i hi
  rwa [thAt_lt hi] at this
def cR (nm : ByteArray) (wd ln : Int) (ds : List S44) (bd : List S77) : Nat → Int × Bool
  | 0 => (-1, !formB nm wd ln ds bd)
  | 1 => (-1, !widthB wd)
  | 2 => (-1, !pow2B ln)
  | 3 => (-1, !decide (ds.length ≤ 256))
  | 4 => firstD (twiceB ds) ds.length
  | 5 => firstD (sizeBad ds) ds.length
  | 6 => firstD (valuesBad ds) ds.length
  | 7 => firstD (rangeBad wd ds) ds.length
  | 8 => (-1, !decide (wordsS ds ≤ 4096))
  | 9 => firstS (badC wd ds 10) (things ds bd)
  | 10 => firstS (badC wd ds 11) (things ds bd)
  | 11 => firstS (badC wd ds 12) (things ds bd)
  | 12 => firstS (badC wd ds 13) (things ds bd)
  | 13 => firstS (badC wd ds 14) (things ds bd)
  | 14 => firstS (badC wd ds 15) (things ds bd)
  | _ => (-1, !decide (sizeB bd ≤ 65536))
def cF : Nat → FuncId
  | 4 => 91
  | 5 => 91
  | 6 => 91
  | 7 => 91
  | 9 => 93
  | 10 => 93
  | 11 => 93
  | 12 => 93
  | 13 => 93
  | 14 => 93
  | _ => 87
def cE : Nat → Int
  | 0 => 1
  | 1 => 5
  | 2 => 163
  | 3 => 4
  | 4 => 160
  | 5 => 163
  | 6 => 164
  | 7 => 165
  | 8 => 169
  | 9 => 152
  | 10 => 161
  | 11 => 162
  | 12 => 165
  | 13 => 166
  | 14 => 167
  | _ => 168
theorem b_no {b : Bool} (h : (!b) = false) : b = true := by cases b <;> simp_all
theorem b_yes {b : Bool} (h : (!b) = true) : b = false := by cases b <;> simp_all
theorem d_no {p : Prop} [Decidable p] (h : (!decide p) = false) : p := by simpa using h
theorem d_yes {p : Prop} [Decidable p] (h : (!decide p) = true) : ¬ p := by simpa using h
set_option maxRecDepth 100000 in
theorem clause_calls (nm : ByteArray) (wd ln : Int) (ds : List S44) (bd : List S77) (A3 : Option Addr) (c3 : Nat) (A4 : Option Addr) (c4 : Nat) (b : Nat) (X : World) (hp : ProgAt X ds bd A3 c3 A4 c4) (hg : PGood nm wd ln ds bd) (hbx : ∀ i, i < 16 → X.heap[b + i]? = (clL b)[i]?) (k : Nat) (hk : k < 16) (hprev : ∀ j, j < k → (cR nm wd ln ds bd j).2 = false) :
    Calls Try.prog (cF k) #[.agg #[.string nm, .int .i64 wd, .int .i64 ln, .slice A3 ds.length c3, .slice A4 bd.length c4], .pointer (some ⟨b + k, 0, none⟩)] X fun e w' => e = .returned (.tuple #[.int .i64 (cR nm wd ln ds bd k).1, .bool (cR nm wd ln ds bd k).2]) ∧ Below X.heap.size X w' := by
  have hdl := hg.sizes.1
  have hbk := hg.sizes.2
  have FF : 0 < k → 0 ≤ wd ∧ 0 ≤ ln ∧ (∀ d ∈ ds, 0 ≤ d.f2) ∧ bdB bd = true := fun h => form_facts (b_no (hprev 0 h))
  have RWt : 0 < k → ∀ t ∈ things ds bd, RW t := fun h => rw_things hg.good.bd (FF h).2.2.2 hbk
  have HV : ∀ d ∈ ds, ∀ v ∈ d.f3, 0 ≤ v := fun d hd v hv => (okU_b ((hg.good.ds d hd).2.2.2.2 v hv)).1
  have hcs : k = 0 ∨ k = 1 ∨ k = 2 ∨ k = 3 ∨ k = 4 ∨ k = 5 ∨ k = 6 ∨ k = 7 ∨ k = 8 ∨ k = 9 ∨ k = 10 ∨ k = 11 ∨ k = 12 ∨ k = 13 ∨ k = 14 ∨ k = 15 := by omega
  rcases hcs with rfl | rfl | rfl | rfl | rfl | rfl | rfl | rfl | rfl | rfl | rfl | rfl | rfl | rfl | rfl | rfl
  · exact whole44_calls nm wd ln ds bd A3 c3 A4 c4 (b + 0) X ((hbx 0 (by decide)).trans rfl) (formB nm wd ln ds bd) fun Y hY => wf_v (hp.below hY) rfl
  · exact whole45_calls nm wd ln ds bd A3 c3 A4 c4 (b + 1) X ((hbx 1 (by decide)).trans rfl) (widthB wd) fun Y hY => c45_calls nm wd ln ds bd A3 c3 A4 c4 Y _ rfl
  · exact whole47_calls nm wd ln ds bd A3 c3 A4 c4 (b + 2) X ((hbx 2 (by decide)).trans rfl) (pow2B ln) fun Y hY => c47_calls nm wd ln ds bd A3 c3 A4 c4 Y _ rfl
  · exact whole48_calls nm wd ln ds bd A3 c3 A4 c4 (b + 3) X ((hbx 3 (by decide)).trans rfl) (decide (ds.length ≤ 256)) fun Y hY => c48_calls nm wd ln ds bd A3 c3 A4 c4 Y hdl _ rfl
  · exact decls50_calls nm wd ln ds bd A3 c3 A4 c4 (b + 4) X hdl ((hbx 4 (by decide)).trans rfl) (twiceB ds) (fun Y i hY hi => c50_calls nm wd ln ds bd A3 c3 A4 c4 Y (hp.below hY).hd hp.hld i hi _ rfl) _ rfl
  · exact decls52_calls nm wd ln ds bd A3 c3 A4 c4 (b + 5) X hdl ((hbx 5 (by decide)).trans rfl) (sizeBad ds) (fun Y i hY hi => c52_calls nm wd ln ds bd A3 c3 A4 c4 Y (hp.below hY).hd i hi _ rfl) _ rfl
  · exact decls53_calls nm wd ln ds bd A3 c3 A4 c4 (b + 6) X hdl ((hbx 6 (by decide)).trans rfl) (valuesBad ds) (fun Y i hY hi => c53_calls nm wd ln ds bd A3 c3 A4 c4 Y (hp.below hY).hd i hi _ rfl) _ rfl
  · exact decls54_calls nm wd ln ds bd A3 c3 A4 c4 (b + 7) X hdl ((hbx 7 (by decide)).trans rfl) (rangeBad wd ds) (fun Y i hY hi => c54_calls nm wd ln ds bd A3 c3 A4 c4 Y (hp.below hY).hd (FF (by decide)).1 HV i hi _ rfl) _ rfl
  · have HW : ∀ d ∈ ds, d.f2 = 0 ∨ pow2B d.f2 = true := by
      intro d hd
      obtain ⟨i, hi, rfl⟩ := List.getElem_of_mem hd
      have h := size_good (firstN_all (firstD_no (hprev 5 (by decide))) i hi)
      have e : rd_T44 ds (i : Int) = ds[i] := by unfold rd_T44; rw [Int.toNat_natCast, List.getD_eq_getElem?_getD, List.getElem?_eq_getElem hi]; rfl
      rwa [e] at h
    exact whole58_calls nm wd ln ds bd A3 c3 A4 c4 (b + 8) X ((hbx 8 (by decide)).trans rfl) (decide (wordsS ds ≤ 4096)) fun Y hY => c58_calls nm wd ln ds bd A3 c3 A4 c4 Y (hp.below hY).hd hdl HW _ rfl
  · refine things1_calls (R := RW) (f := badC wd ds 10) nm wd ln ds bd A3 c3 A4 c4 (b + 9) X hp (FF (by decide)).2.2.2 hdl hbk (RWt (by decide)) (fun Y b2 hY h2 => wrong61_ok (W0 := Y) (nm := nm) (wd := wd) (ln := ln) (ds := ds) (bd := bd) (A3 := A3) (c3 := c3) (A4 := A4) (c4 := c4) ?_ ((hY.block _ (blk_lt ((hbx 9 (by decide)).trans rfl))).trans ((hbx 9 (by decide)).trans rfl)) h2) _ rfl
    intro Wb W n dp sp ep dI lp t hR h0 hB ht
    exact cl10_calls nm wd ln ds bd A3 c3 A4 c4 W n dp sp ep dI lp t hR hB ht _ rfl
  · refine things1_calls (R := RW) (f := badC wd ds 11) nm wd ln ds bd A3 c3 A4 c4 (b + 10) X hp (FF (by decide)).2.2.2 hdl hbk (RWt (by decide)) (fun Y b2 hY h2 => wrong63_ok (W0 := Y) (nm := nm) (wd := wd) (ln := ln) (ds := ds) (bd := bd) (A3 := A3) (c3 := c3) (A4 := A4) (c4 := c4) ?_ ((hY.block _ (blk_lt ((hbx 10 (by decide)).trans rfl))).trans ((hbx 10 (by decide)).trans rfl)) h2) _ rfl
    intro Wb W n dp sp ep dI lp t hR h0 hB ht
    exact cl11_calls nm wd ln ds bd A3 c3 A4 c4 ((hp.below hY).below h0) W n dp sp ep dI lp t hR.1 hB ht _ rfl
  · refine things1_calls (R := (fun t => RW t ∧ bad11 ds t = false)) (f := badC wd ds 12) nm wd ln ds bd A3 c3 A4 c4 (b + 11) X hp (FF (by decide)).2.2.2 hdl hbk (fun t ht => ⟨RWt (by decide) t ht, firstS_mem (hprev 10 (by decide)) t ht⟩) (fun Y b2 hY h2 => wrong66_ok (W0 := Y) (nm := nm) (wd := wd) (ln := ln) (ds := ds) (bd := bd) (A3 := A3) (c3 := c3) (A4 := A4) (c4 := c4) ?_ ((hY.block _ (blk_lt ((hbx 11 (by decide)).trans rfl))).trans ((hbx 11 (by decide)).trans rfl)) h2) _ rfl
    intro Wb W n dp sp ep dI lp t hR h0 hB ht
    exact cl12_calls nm wd ln ds bd A3 c3 A4 c4 ((hp.below hY).below h0) (FF (by decide)).2.2.1 W n dp sp ep dI lp t hR.1.1 hB ht hR.2 _ rfl
  · refine things1_calls (R := RW) (f := badC wd ds 13) nm wd ln ds bd A3 c3 A4 c4 (b + 12) X hp (FF (by decide)).2.2.2 hdl hbk (RWt (by decide)) (fun Y b2 hY h2 => wrong68_ok (W0 := Y) (nm := nm) (wd := wd) (ln := ln) (ds := ds) (bd := bd) (A3 := A3) (c3 := c3) (A4 := A4) (c4 := c4) ?_ ((hY.block _ (blk_lt ((hbx 12 (by decide)).trans rfl))).trans ((hbx 12 (by decide)).trans rfl)) h2) _ rfl
    intro Wb W n dp sp ep dI lp t hR h0 hB ht
    exact cl13_calls nm wd ln ds bd A3 c3 A4 c4 ((hp.below hY).below h0) (FF (by decide)).1 W n dp sp ep dI lp t hR.1 hB ht _ rfl
  · refine things1_calls (R := RW) (f := badC wd ds 14) nm wd ln ds bd A3 c3 A4 c4 (b + 13) X hp (FF (by decide)).2.2.2 hdl hbk (RWt (by decide)) (fun Y b2 hY h2 => wrong69_ok (W0 := Y) (nm := nm) (wd := wd) (ln := ln) (ds := ds) (bd := bd) (A3 := A3) (c3 := c3) (A4 := A4) (c4 := c4) ?_ ((hY.block _ (blk_lt ((hbx 13 (by decide)).trans rfl))).trans ((hbx 13 (by decide)).trans rfl)) h2) _ rfl
    intro Wb W n dp sp ep dI lp t hR h0 hB ht
    exact cl14_calls nm wd ln ds bd A3 c3 A4 c4 ((hp.below hY).below h0) (b_no (hprev 1 (by decide))) W n dp sp ep dI lp t hR.1 hB ht _ rfl
  · refine things1_calls (R := RW) (f := badC wd ds 15) nm wd ln ds bd A3 c3 A4 c4 (b + 14) X hp (FF (by decide)).2.2.2 hdl hbk (RWt (by decide)) (fun Y b2 hY h2 => wrong70_ok (W0 := Y) (nm := nm) (wd := wd) (ln := ln) (ds := ds) (bd := bd) (A3 := A3) (c3 := c3) (A4 := A4) (c4 := c4) ?_ ((hY.block _ (blk_lt ((hbx 14 (by decide)).trans rfl))).trans ((hbx 14 (by decide)).trans rfl)) h2) _ rfl
    intro Wb W n dp sp ep dI lp t hR h0 hB ht
    exact cl15_calls nm wd ln ds bd A3 c3 A4 c4 ((hp.below hY).below h0) W n dp sp ep dI lp t hR.1 hB ht _ rfl
  · exact whole71_calls nm wd ln ds bd A3 c3 A4 c4 (b + 15) X ((hbx 15 (by decide)).trans rfl) (decide (sizeB bd ≤ 65536)) fun Y hY => c71_calls nm wd ln ds bd A3 c3 A4 c4 Y (hp.below hY).hb hp.hlb ((Ot.goodTs_iff bd).2 hg.good.bd) hbk _ rfl
theorem faultS_at {nm : ByteArray} {wd ln : Int} {ds : List S44} {bd : List S77} {k : Nat} (hk : k < 16) (hprev : ∀ j, j < k → (cR nm wd ln ds bd j).2 = false) (hb : (cR nm wd ln ds bd k).2 = true) : faultS nm wd ln ds bd = ⟨(k : Int) + 1, (cR nm wd ln ds bd k).1, cE k⟩ := by
  have hcs : k = 0 ∨ k = 1 ∨ k = 2 ∨ k = 3 ∨ k = 4 ∨ k = 5 ∨ k = 6 ∨ k = 7 ∨ k = 8 ∨ k = 9 ∨ k = 10 ∨ k = 11 ∨ k = 12 ∨ k = 13 ∨ k = 14 ∨ k = 15 := by omega
  rcases hcs with rfl | rfl | rfl | rfl | rfl | rfl | rfl | rfl | rfl | rfl | rfl | rfl | rfl | rfl | rfl | rfl
  · have hh : formB nm wd ln ds bd = false := b_yes hb
    simp only [faultS, faultD, faultC, errC, Bool.true_eq_false, if_false, if_true, reduceIte, reduceCtorEq, Nat.reduceSub, hh] <;> rfl
  · have h0 : formB nm wd ln ds bd = true := b_no (hprev 0 (by decide))
    have hh : widthB wd = false := b_yes hb
    simp only [faultS, faultD, faultC, errC, Bool.true_eq_false, if_false, if_true, reduceIte, reduceCtorEq, Nat.reduceSub, hh, h0] <;> rfl
  · have h0 : formB nm wd ln ds bd = true := b_no (hprev 0 (by decide))
    have h1 : widthB wd = true := b_no (hprev 1 (by decide))
    have hh : pow2B ln = false := b_yes hb
    simp only [faultS, faultD, faultC, errC, Bool.true_eq_false, if_false, if_true, reduceIte, reduceCtorEq, Nat.reduceSub, hh, h0, h1] <;> rfl
  · have h0 : formB nm wd ln ds bd = true := b_no (hprev 0 (by decide))
    have h1 : widthB wd = true := b_no (hprev 1 (by decide))
    have h2 : pow2B ln = true := b_no (hprev 2 (by decide))
    have hh : 256 < ds.length := Nat.not_le.1 (d_yes hb)
    simp only [faultS, faultD, faultC, errC, Bool.true_eq_false, if_false, if_true, reduceIte, reduceCtorEq, Nat.reduceSub, hh, h0, h1, h2] <;> rfl
  · have h0 : formB nm wd ln ds bd = true := b_no (hprev 0 (by decide))
    have h1 : widthB wd = true := b_no (hprev 1 (by decide))
    have h2 : pow2B ln = true := b_no (hprev 2 (by decide))
    have h3 : ¬ 256 < ds.length := Nat.not_lt.2 (d_no (hprev 3 (by decide)))
    obtain ⟨i, hh, hv⟩ := firstD_yes hb
    have hv2 : (cR nm wd ln ds bd 4).1 = (i : Int) := hv
    simp only [faultS, faultD, faultC, errC, Bool.true_eq_false, if_false, if_true, reduceIte, reduceCtorEq, Nat.reduceSub, hh, hv2, h0, h1, h2, h3] <;> rfl
  · have h0 : formB nm wd ln ds bd = true := b_no (hprev 0 (by decide))
    have h1 : widthB wd = true := b_no (hprev 1 (by decide))
    have h2 : pow2B ln = true := b_no (hprev 2 (by decide))
    have h3 : ¬ 256 < ds.length := Nat.not_lt.2 (d_no (hprev 3 (by decide)))
    have h4 : firstN ds.length (twiceB ds) = none := firstD_no (hprev 4 (by decide))
    obtain ⟨i, hh, hv⟩ := firstD_yes hb
    have hv2 : (cR nm wd ln ds bd 5).1 = (i : Int) := hv
    simp only [faultS, faultD, faultC, errC, Bool.true_eq_false, if_false, if_true, reduceIte, reduceCtorEq, Nat.reduceSub, hh, hv2, h0, h1, h2, h3, h4] <;> rfl
  · have h0 : formB nm wd ln ds bd = true := b_no (hprev 0 (by decide))
    have h1 : widthB wd = true := b_no (hprev 1 (by decide))
    have h2 : pow2B ln = true := b_no (hprev 2 (by decide))
    have h3 : ¬ 256 < ds.length := Nat.not_lt.2 (d_no (hprev 3 (by decide)))
    have h4 : firstN ds.length (twiceB ds) = none := firstD_no (hprev 4 (by decide))
    have h5 : firstN ds.length (sizeBad ds) = none := firstD_no (hprev 5 (by decide))
    obtain ⟨i, hh, hv⟩ := firstD_yes hb
    have hv2 : (cR nm wd ln ds bd 6).1 = (i : Int) := hv
    simp only [faultS, faultD, faultC, errC, Bool.true_eq_false, if_false, if_true, reduceIte, reduceCtorEq, Nat.reduceSub, hh, hv2, h0, h1, h2, h3, h4, h5] <;> rfl
  · have h0 : formB nm wd ln ds bd = true := b_no (hprev 0 (by decide))
    have h1 : widthB wd = true := b_no (hprev 1 (by decide))
    have h2 : pow2B ln = true := b_no (hprev 2 (by decide))
    have h3 : ¬ 256 < ds.length := Nat.not_lt.2 (d_no (hprev 3 (by decide)))
    have h4 : firstN ds.length (twiceB ds) = none := firstD_no (hprev 4 (by decide))
    have h5 : firstN ds.length (sizeBad ds) = none := firstD_no (hprev 5 (by decide))
    have h6 : firstN ds.length (valuesBad ds) = none := firstD_no (hprev 6 (by decide))
    obtain ⟨i, hh, hv⟩ := firstD_yes hb
    have hv2 : (cR nm wd ln ds bd 7).1 = (i : Int) := hv
    simp only [faultS, faultD, faultC, errC, Bool.true_eq_false, if_false, if_true, reduceIte, reduceCtorEq, Nat.reduceSub, hh, hv2, h0, h1, h2, h3, h4, h5, h6] <;> rfl
  · have h0 : formB nm wd ln ds bd = true := b_no (hprev 0 (by decide))
    have h1 : widthB wd = true := b_no (hprev 1 (by decide))
    have h2 : pow2B ln = true := b_no (hprev 2 (by decide))
    have h3 : ¬ 256 < ds.length := Nat.not_lt.2 (d_no (hprev 3 (by decide)))
    have h4 : firstN ds.length (twiceB ds) = none := firstD_no (hprev 4 (by decide))
    have h5 : firstN ds.length (sizeBad ds) = none := firstD_no (hprev 5 (by decide))
    have h6 : firstN ds.length (valuesBad ds) = none := firstD_no (hprev 6 (by decide))
    have h7 : firstN ds.length (rangeBad wd ds) = none := firstD_no (hprev 7 (by decide))
    have hh : 4096 < wordsS ds := Int.not_le.1 (d_yes hb)
    simp only [faultS, faultD, faultC, errC, Bool.true_eq_false, if_false, if_true, reduceIte, reduceCtorEq, Nat.reduceSub, hh, h0, h1, h2, h3, h4, h5, h6, h7] <;> rfl
  · have h0 : formB nm wd ln ds bd = true := b_no (hprev 0 (by decide))
    have h1 : widthB wd = true := b_no (hprev 1 (by decide))
    have h2 : pow2B ln = true := b_no (hprev 2 (by decide))
    have h3 : ¬ 256 < ds.length := Nat.not_lt.2 (d_no (hprev 3 (by decide)))
    have h4 : firstN ds.length (twiceB ds) = none := firstD_no (hprev 4 (by decide))
    have h5 : firstN ds.length (sizeBad ds) = none := firstD_no (hprev 5 (by decide))
    have h6 : firstN ds.length (valuesBad ds) = none := firstD_no (hprev 6 (by decide))
    have h7 : firstN ds.length (rangeBad wd ds) = none := firstD_no (hprev 7 (by decide))
    have h8 : ¬ 4096 < wordsS ds := Int.not_lt.2 (d_no (hprev 8 (by decide)))
    obtain ⟨i, hh, hv⟩ := firstS_yes hb
    have hv2 : (cR nm wd ln ds bd 9).1 = (i : Int) := hv
    have hh : firstBad wd ds (things ds bd) 10 = some i := hh
    simp only [faultS, faultD, faultC, errC, Bool.true_eq_false, if_false, if_true, reduceIte, reduceCtorEq, Nat.reduceSub, hh, hv2, h0, h1, h2, h3, h4, h5, h6, h7, h8] <;> rfl
  · have h0 : formB nm wd ln ds bd = true := b_no (hprev 0 (by decide))
    have h1 : widthB wd = true := b_no (hprev 1 (by decide))
    have h2 : pow2B ln = true := b_no (hprev 2 (by decide))
    have h3 : ¬ 256 < ds.length := Nat.not_lt.2 (d_no (hprev 3 (by decide)))
    have h4 : firstN ds.length (twiceB ds) = none := firstD_no (hprev 4 (by decide))
    have h5 : firstN ds.length (sizeBad ds) = none := firstD_no (hprev 5 (by decide))
    have h6 : firstN ds.length (valuesBad ds) = none := firstD_no (hprev 6 (by decide))
    have h7 : firstN ds.length (rangeBad wd ds) = none := firstD_no (hprev 7 (by decide))
    have h8 : ¬ 4096 < wordsS ds := Int.not_lt.2 (d_no (hprev 8 (by decide)))
    have h9 : firstBad wd ds (things ds bd) 10 = none := firstS_no (hprev 9 (by decide))
    obtain ⟨i, hh, hv⟩ := firstS_yes hb
    have hv2 : (cR nm wd ln ds bd 10).1 = (i : Int) := hv
    have hh : firstBad wd ds (things ds bd) 11 = some i := hh
    simp only [faultS, faultD, faultC, errC, Bool.true_eq_false, if_false, if_true, reduceIte, reduceCtorEq, Nat.reduceSub, hh, hv2, h0, h1, h2, h3, h4, h5, h6, h7, h8, h9] <;> rfl
  · have h0 : formB nm wd ln ds bd = true := b_no (hprev 0 (by decide))
    have h1 : widthB wd = true := b_no (hprev 1 (by decide))
    have h2 : pow2B ln = true := b_no (hprev 2 (by decide))
    have h3 : ¬ 256 < ds.length := Nat.not_lt.2 (d_no (hprev 3 (by decide)))
    have h4 : firstN ds.length (twiceB ds) = none := firstD_no (hprev 4 (by decide))
    have h5 : firstN ds.length (sizeBad ds) = none := firstD_no (hprev 5 (by decide))
    have h6 : firstN ds.length (valuesBad ds) = none := firstD_no (hprev 6 (by decide))
    have h7 : firstN ds.length (rangeBad wd ds) = none := firstD_no (hprev 7 (by decide))
    have h8 : ¬ 4096 < wordsS ds := Int.not_lt.2 (d_no (hprev 8 (by decide)))
    have h9 : firstBad wd ds (things ds bd) 10 = none := firstS_no (hprev 9 (by decide))
    have h10 : firstBad wd ds (things ds bd) 11 = none := firstS_no (hprev 10 (by decide))
    obtain ⟨i, hh, hv⟩ := firstS_yes hb
    have hv2 : (cR nm wd ln ds bd 11).1 = (i : Int) := hv
    have hh : firstBad wd ds (things ds bd) 12 = some i := hh
    simp only [faultS, faultD, faultC, errC, Bool.true_eq_false, if_false, if_true, reduceIte, reduceCtorEq, Nat.reduceSub, hh, hv2, h0, h1, h2, h3, h4, h5, h6, h7, h8, h9, h10] <;> rfl
  · have h0 : formB nm wd ln ds bd = true := b_no (hprev 0 (by decide))
    have h1 : widthB wd = true := b_no (hprev 1 (by decide))
    have h2 : pow2B ln = true := b_no (hprev 2 (by decide))
    have h3 : ¬ 256 < ds.length := Nat.not_lt.2 (d_no (hprev 3 (by decide)))
    have h4 : firstN ds.length (twiceB ds) = none := firstD_no (hprev 4 (by decide))
    have h5 : firstN ds.length (sizeBad ds) = none := firstD_no (hprev 5 (by decide))
    have h6 : firstN ds.length (valuesBad ds) = none := firstD_no (hprev 6 (by decide))
    have h7 : firstN ds.length (rangeBad wd ds) = none := firstD_no (hprev 7 (by decide))
    have h8 : ¬ 4096 < wordsS ds := Int.not_lt.2 (d_no (hprev 8 (by decide)))
    have h9 : firstBad wd ds (things ds bd) 10 = none := firstS_no (hprev 9 (by decide))
    have h10 : firstBad wd ds (things ds bd) 11 = none := firstS_no (hprev 10 (by decide))
    have h11 : firstBad wd ds (things ds bd) 12 = none := firstS_no (hprev 11 (by decide))
    obtain ⟨i, hh, hv⟩ := firstS_yes hb
    have hv2 : (cR nm wd ln ds bd 12).1 = (i : Int) := hv
    have hh : firstBad wd ds (things ds bd) 13 = some i := hh
    simp only [faultS, faultD, faultC, errC, Bool.true_eq_false, if_false, if_true, reduceIte, reduceCtorEq, Nat.reduceSub, hh, hv2, h0, h1, h2, h3, h4, h5, h6, h7, h8, h9, h10, h11] <;> rfl
  · have h0 : formB nm wd ln ds bd = true := b_no (hprev 0 (by decide))
    have h1 : widthB wd = true := b_no (hprev 1 (by decide))
    have h2 : pow2B ln = true := b_no (hprev 2 (by decide))
    have h3 : ¬ 256 < ds.length := Nat.not_lt.2 (d_no (hprev 3 (by decide)))
    have h4 : firstN ds.length (twiceB ds) = none := firstD_no (hprev 4 (by decide))
    have h5 : firstN ds.length (sizeBad ds) = none := firstD_no (hprev 5 (by decide))
    have h6 : firstN ds.length (valuesBad ds) = none := firstD_no (hprev 6 (by decide))
    have h7 : firstN ds.length (rangeBad wd ds) = none := firstD_no (hprev 7 (by decide))
    have h8 : ¬ 4096 < wordsS ds := Int.not_lt.2 (d_no (hprev 8 (by decide)))
    have h9 : firstBad wd ds (things ds bd) 10 = none := firstS_no (hprev 9 (by decide))
    have h10 : firstBad wd ds (things ds bd) 11 = none := firstS_no (hprev 10 (by decide))
    have h11 : firstBad wd ds (things ds bd) 12 = none := firstS_no (hprev 11 (by decide))
    have h12 : firstBad wd ds (things ds bd) 13 = none := firstS_no (hprev 12 (by decide))
    obtain ⟨i, hh, hv⟩ := firstS_yes hb
    have hv2 : (cR nm wd ln ds bd 13).1 = (i : Int) := hv
    have hh : firstBad wd ds (things ds bd) 14 = some i := hh
    simp only [faultS, faultD, faultC, errC, Bool.true_eq_false, if_false, if_true, reduceIte, reduceCtorEq, Nat.reduceSub, hh, hv2, h0, h1, h2, h3, h4, h5, h6, h7, h8, h9, h10, h11, h12] <;> rfl
  · have h0 : formB nm wd ln ds bd = true := b_no (hprev 0 (by decide))
    have h1 : widthB wd = true := b_no (hprev 1 (by decide))
    have h2 : pow2B ln = true := b_no (hprev 2 (by decide))
    have h3 : ¬ 256 < ds.length := Nat.not_lt.2 (d_no (hprev 3 (by decide)))
    have h4 : firstN ds.length (twiceB ds) = none := firstD_no (hprev 4 (by decide))
    have h5 : firstN ds.length (sizeBad ds) = none := firstD_no (hprev 5 (by decide))
    have h6 : firstN ds.length (valuesBad ds) = none := firstD_no (hprev 6 (by decide))
    have h7 : firstN ds.length (rangeBad wd ds) = none := firstD_no (hprev 7 (by decide))
    have h8 : ¬ 4096 < wordsS ds := Int.not_lt.2 (d_no (hprev 8 (by decide)))
    have h9 : firstBad wd ds (things ds bd) 10 = none := firstS_no (hprev 9 (by decide))
    have h10 : firstBad wd ds (things ds bd) 11 = none := firstS_no (hprev 10 (by decide))
    have h11 : firstBad wd ds (things ds bd) 12 = none := firstS_no (hprev 11 (by decide))
    have h12 : firstBad wd ds (things ds bd) 13 = none := firstS_no (hprev 12 (by decide))
    have h13 : firstBad wd ds (things ds bd) 14 = none := firstS_no (hprev 13 (by decide))
    obtain ⟨i, hh, hv⟩ := firstS_yes hb
    have hv2 : (cR nm wd ln ds bd 14).1 = (i : Int) := hv
    have hh : firstBad wd ds (things ds bd) 15 = some i := hh
    simp only [faultS, faultD, faultC, errC, Bool.true_eq_false, if_false, if_true, reduceIte, reduceCtorEq, Nat.reduceSub, hh, hv2, h0, h1, h2, h3, h4, h5, h6, h7, h8, h9, h10, h11, h12, h13] <;> rfl
  · have h0 : formB nm wd ln ds bd = true := b_no (hprev 0 (by decide))
    have h1 : widthB wd = true := b_no (hprev 1 (by decide))
    have h2 : pow2B ln = true := b_no (hprev 2 (by decide))
    have h3 : ¬ 256 < ds.length := Nat.not_lt.2 (d_no (hprev 3 (by decide)))
    have h4 : firstN ds.length (twiceB ds) = none := firstD_no (hprev 4 (by decide))
    have h5 : firstN ds.length (sizeBad ds) = none := firstD_no (hprev 5 (by decide))
    have h6 : firstN ds.length (valuesBad ds) = none := firstD_no (hprev 6 (by decide))
    have h7 : firstN ds.length (rangeBad wd ds) = none := firstD_no (hprev 7 (by decide))
    have h8 : ¬ 4096 < wordsS ds := Int.not_lt.2 (d_no (hprev 8 (by decide)))
    have h9 : firstBad wd ds (things ds bd) 10 = none := firstS_no (hprev 9 (by decide))
    have h10 : firstBad wd ds (things ds bd) 11 = none := firstS_no (hprev 10 (by decide))
    have h11 : firstBad wd ds (things ds bd) 12 = none := firstS_no (hprev 11 (by decide))
    have h12 : firstBad wd ds (things ds bd) 13 = none := firstS_no (hprev 12 (by decide))
    have h13 : firstBad wd ds (things ds bd) 14 = none := firstS_no (hprev 13 (by decide))
    have h14 : firstBad wd ds (things ds bd) 15 = none := firstS_no (hprev 14 (by decide))
    have hh : 65536 < sizeB bd := Nat.not_le.1 (d_yes hb)
    simp only [faultS, faultD, faultC, errC, Bool.true_eq_false, if_false, if_true, reduceIte, reduceCtorEq, Nat.reduceSub, hh, h0, h1, h2, h3, h4, h5, h6, h7, h8, h9, h10, h11, h12, h13, h14] <;> rfl
theorem faultS_none {nm : ByteArray} {wd ln : Int} {ds : List S44} {bd : List S77} (hprev : ∀ j, j < 16 → (cR nm wd ln ds bd j).2 = false) : faultS nm wd ln ds bd = ⟨0, 0, 0⟩ := by
  have h0 : formB nm wd ln ds bd = true := b_no (hprev 0 (by decide))
  have h1 : widthB wd = true := b_no (hprev 1 (by decide))
  have h2 : pow2B ln = true := b_no (hprev 2 (by decide))
  have h3 : ¬ 256 < ds.length := Nat.not_lt.2 (d_no (hprev 3 (by decide)))
  have h4 : firstN ds.length (twiceB ds) = none := firstD_no (hprev 4 (by decide))
  have h5 : firstN ds.length (sizeBad ds) = none := firstD_no (hprev 5 (by decide))
  have h6 : firstN ds.length (valuesBad ds) = none := firstD_no (hprev 6 (by decide))
  have h7 : firstN ds.length (rangeBad wd ds) = none := firstD_no (hprev 7 (by decide))
  have h8 : ¬ 4096 < wordsS ds := Int.not_lt.2 (d_no (hprev 8 (by decide)))
  have h9 : firstBad wd ds (things ds bd) 10 = none := firstS_no (hprev 9 (by decide))
  have h10 : firstBad wd ds (things ds bd) 11 = none := firstS_no (hprev 10 (by decide))
  have h11 : firstBad wd ds (things ds bd) 12 = none := firstS_no (hprev 11 (by decide))
  have h12 : firstBad wd ds (things ds bd) 13 = none := firstS_no (hprev 12 (by decide))
  have h13 : firstBad wd ds (things ds bd) 14 = none := firstS_no (hprev 13 (by decide))
  have h14 : firstBad wd ds (things ds bd) 15 = none := firstS_no (hprev 14 (by decide))
  have h15 : ¬ 65536 < sizeB bd := Nat.not_lt.2 (d_no (hprev 15 (by decide)))
  simp only [faultS, faultD, faultC, errC, Bool.true_eq_false, if_false, if_true, reduceIte, reduceCtorEq, Nat.reduceSub, h0, h1, h2, h3, h4, h5, h6, h7, h8, h9, h10, h11, h12, h13, h14, h15]
end Go.Proofs.Ytfcahachdpjfoaa.L
end
section
namespace Go.Proofs.Ytfcahachdpjfoaa.L
open Go.RowKit
set_option linter.unusedVariables false
set_option linter.unusedSimpArgs false
structure SameD (d d' : S44) : Prop where
  nm : d'.f1 = d.f1
  sz : d'.f2 = d.f2
  vs : d'.f3 = d.f3
  k3 : (d'.f0 = 3) ↔ (d.f0 = 3)
  ok : 1 ≤ d.f0 → d.f0 ≤ 5 → 1 ≤ d'.f0 ∧ d'.f0 ≤ 5
theorem SameD.refl (d : S44) : SameD d d := ⟨rfl, rfl, rfl, Iff.rfl, fun h1 h2 => ⟨h1, h2⟩⟩
structure SameDs (ds ds' : List S44) : Prop where
  len : ds'.length = ds.length
  rd : ∀ i : Nat, i < ds.length → SameD (rd_T44 ds (i : Int)) (rd_T44 ds' (i : Int))
theorem SameDs.all {ds ds' : List S44} (h : SameDs ds ds') (i : Nat) : SameD (rd_T44 ds (i : Int)) (rd_T44 ds' (i : Int)) := by
  rcases Nat.lt_or_ge i ds.length with hi | hi
  · exact h.rd i hi
  · have e : rd_T44 ds' (i : Int) = rd_T44 ds (i : Int) := by
      unfold rd_T44
      rw [Int.toNat_natCast, List.getD_eq_getElem?_getD, List.getD_eq_getElem?_getD, List.getElem?_eq_none hi, List.getElem?_eq_none (by rw [h.len]; exact hi)]
    rw [e]
    exact SameD.refl _
theorem SameDs.find {ds ds' : List S44} (h : SameDs ds ds') (s : ByteArray) : findB ds' s = findB ds s := by
  unfold findB
  rw [h.len]
  exact firstN_congr fun j hj => by rw [(h.all j).nm]
theorem SameD.bne {d d' : S44} (h : SameD d d') : (d'.f0 != 3) = (d.f0 != 3) := by
  by_cases c : d.f0 = 3
  · rw [h.k3.2 c, c]
  · exact (bn (fun x => c (h.k3.1 x))).trans (bn c).symm
theorem SameD.beq {d d' : S44} (h : SameD d d') : (d'.f0 == 3) = (d.f0 == 3) := by
  by_cases c : d.f0 = 3
  · rw [h.k3.2 c, c]
  · exact (bf (fun x => c (h.k3.1 x))).trans (bf c).symm
theorem SameD.dc {d d' : S44} (h : SameD d d') (hd : dcB d = true) : dcB d' = true := by
  unfold dcB at hd ⊢
  simp only [Bool.and_eq_true, decide_eq_true_eq] at hd
  obtain ⟨⟨⟨⟨h1, h2⟩, h3⟩, h4⟩, h5⟩ := hd
  obtain ⟨g1, g2⟩ := h.ok h1 h2
  rw [decide_eq_true g1, decide_eq_true g2, h.nm, h3, h.sz, decide_eq_true h4, h.vs]
  by_cases c : d.f0 = 3
  · rw [if_pos c] at h5
    rw [if_pos (h.k3.2 c), h5]; rfl
  · rw [if_neg c] at h5
    rw [if_neg (fun x => c (h.k3.1 x)), h5]; rfl
theorem SameD.kind {d d' : S44} (h : SameD d d') (t : Th) : kindD d' t = kindD d t := by
  cases t <;> simp only [kindD, h.sz, h.bne]
theorem rd44_all {p : S44 → Bool} {l : List S44} (h : ∀ i : Nat, i < l.length → p (rd_T44 l (i : Int)) = true) : l.all p = true := by
  rw [List.all_eq_true]
  intro y hy
  obtain ⟨j, hj, rfl⟩ := List.getElem_of_mem hy
  have := h j hj
  unfold rd_T44 at this
  rwa [Int.toNat_natCast, List.getD_eq_getElem?_getD, List.getElem?_eq_getElem hj] at this
theorem SameDs.form {ds ds' : List S44} (h : SameDs ds ds') (ha : ds.all dcB = true) : ds'.all dcB = true :=
  rd44_all fun i hi => (h.all i).dc (List.all_eq_true.1 ha _ (rd44_mem (by rw [← h.len]; exact hi)))
theorem SameDs.things {ds ds' : List S44} (h : SameDs ds ds') (bd : List S77) : L.things ds' bd = L.things ds bd := by
  unfold L.things; rw [h.len]
theorem SameDs.bad {ds ds' : List S44} (h : SameDs ds ds') (wd : Int) (c : Nat) : badC wd ds' c = badC wd ds c := by
  have e11 : bad11 ds' = bad11 ds := by
    funext t
    unfold bad11
    cases useB t with
    | none => rfl
    | some s => simp only [h.find]
  have e12 : bad12 ds' = bad12 ds := by
    funext t
    unfold bad12
    cases useB t with
    | none => rfl
    | some s => simp only [kindB, h.find, (h.all _).kind]
  have e15 : bad15 ds' = bad15 ds := by
    funext t
    cases t with
    | decl i => rfl
    | stmt s d l => simp only [bad15, h.find]
    | expr e l => rfl
  unfold badC
  rw [e11, e12, e15]
theorem SameDs.cR {nm : ByteArray} {wd ln : Int} {ds ds' : List S44} {bd : List S77} (h : SameDs ds ds') {k : Nat} (hk : k < 16) (h8 : k ≠ 8) (hc : (L.cR nm wd ln ds bd k).2 = false) : (L.cR nm wd ln ds' bd k).2 = false := by
  have hcs : k = 0 ∨ k = 1 ∨ k = 2 ∨ k = 3 ∨ k = 4 ∨ k = 5 ∨ k = 6 ∨ k = 7 ∨ k = 9 ∨ k = 10 ∨ k = 11 ∨ k = 12 ∨ k = 13 ∨ k = 14 ∨ k = 15 := by omega
  have fd : ∀ f g : Nat → Bool, (∀ i, i < ds.length → g i = f i) → (firstD f ds.length).2 = false → (firstD g ds'.length).2 = false := by
    intro f g e hf
    unfold firstD at hf ⊢
    rw [h.len, firstN_congr e]
    exact hf
  have fs : ∀ c, (firstS (badC wd ds c) (L.things ds bd)).2 = false → (firstS (badC wd ds' c) (L.things ds' bd)).2 = false := by
    intro c hf
    rw [h.things, h.bad]
    exact hf
  rcases hcs with rfl | rfl | rfl | rfl | rfl | rfl | rfl | rfl | rfl | rfl | rfl | rfl | rfl | rfl | rfl
  · simp only [L.cR] at hc ⊢
    have hf := b_no hc
    unfold formB at hf ⊢
    simp only [Bool.and_eq_true] at hf
    obtain ⟨⟨⟨a1, a2⟩, a3⟩, a4, a5⟩ := hf
    rw [a1, a2, a3, h.form a4, a5]; rfl
  · exact hc
  · exact hc
  · simp only [L.cR] at hc ⊢
    rw [h.len]
    exact hc
  · refine fd (twiceB ds) (twiceB ds') (fun i hi => ?_) hc
    unfold twiceB
    rw [firstN_congr (f := fun j : Nat => eqS (rd_T44 ds' (j : Int)).f1 (rd_T44 ds' (i : Int)).f1) (g := fun j : Nat => eqS (rd_T44 ds (j : Int)).f1 (rd_T44 ds (i : Int)).f1) fun j hj => by rw [(h.all j).nm, (h.all i).nm]]
  · exact fd (sizeBad ds) (sizeBad ds') (fun i hi => by unfold sizeBad; rw [(h.all i).sz]) hc
  · exact fd (valuesBad ds) (valuesBad ds') (fun i hi => by unfold valuesBad; rw [(h.all i).sz, (h.all i).vs, (h.all i).beq]) hc
  · exact fd (rangeBad wd ds) (rangeBad wd ds') (fun i hi => by unfold rangeBad; rw [(h.all i).vs]) hc
  · exact fs 10 hc
  · exact fs 11 hc
  · exact fs 12 hc
  · exact fs 13 hc
  · exact fs 14 hc
  · exact fs 15 hc
  · exact hc
theorem right_all {nm : ByteArray} {wd ln : Int} {ds : List S44} {bd : List S77} (h : (faultS nm wd ln ds bd).e = 0) : ∀ k, k < 16 → (cR nm wd ln ds bd k).2 = false := by
  rcases firstN_cases 16 (fun k => (cR nm wd ln ds bd k).2) with ⟨_, h2⟩ | ⟨i, h0, h1, h2, h3⟩
  · exact h2
  · rw [faultS_at h0 h3 h2] at h
    exfalso
    revert h
    have hcs : i = 0 ∨ i = 1 ∨ i = 2 ∨ i = 3 ∨ i = 4 ∨ i = 5 ∨ i = 6 ∨ i = 7 ∨ i = 8 ∨ i = 9 ∨ i = 10 ∨ i = 11 ∨ i = 12 ∨ i = 13 ∨ i = 14 ∨ i = 15 := by omega
    rcases hcs with rfl | rfl | rfl | rfl | rfl | rfl | rfl | rfl | rfl | rfl | rfl | rfl | rfl | rfl | rfl | rfl <;> intro h <;> cases h
end Go.Proofs.Ytfcahachdpjfoaa.L
end
section
namespace Go.Proofs.Ytfcahachdpjfoaa.L
open Go.RowKit
set_option linter.unusedVariables false
set_option linter.unusedSimpArgs false
theorem toList_inj {a b : ByteArray} (h : a.toList = b.toList) : a = b := by
  rw [Lib.toList_data, Lib.toList_data] at h
  cases a; cases b
  simp only at h
  rw [Array.toList_inj.1 h]
theorem eqS_iff {a b : ByteArray} : eqS a b = true ↔ a = b := by
  unfold eqS
  rw [decide_eq_true_eq]
  exact ⟨toList_inj, fun h => h ▸ rfl⟩
section
variable (fr tw : ByteArray)
def rn (s : ByteArray) : ByteArray := if eqS s fr = true then tw else s
mutual
def rnE : S75 → S75
  | ⟨a, b, s, l⟩ => ⟨a, b, rn fr tw s, rnEs l⟩
def rnEs : List S75 → List S75
  | [] => []
  | x :: r => rnE x :: rnEs r
end
mutual
def rnT : S77 → S77
  | ⟨k, s, e, f, lo, hi, th, el⟩ => ⟨k, rn fr tw s, rnE fr tw e, rnE fr tw f, lo, hi, rnTs th, rnTs el⟩
def rnTs : List S77 → List S77
  | [] => []
  | x :: r => rnT x :: rnTs r
end
end
section
variable {fr tw : ByteArray}
theorem rn_fr : rn fr tw fr = tw := by unfold rn; rw [if_pos (eqS_iff.2 rfl)]
theorem rn_ne {s : ByteArray} (h : s ≠ fr) : rn fr tw s = s := by unfold rn; rw [if_neg (fun x => h (eqS_iff.1 x))]
theorem rn_cases (s : ByteArray) : (s = fr ∧ rn fr tw s = tw) ∨ (s ≠ fr ∧ rn fr tw s = s) := by
  by_cases h : s = fr
  · exact .inl ⟨h, h ▸ rn_fr⟩
  · exact .inr ⟨h, rn_ne h⟩
theorem rnEs_len : ∀ l : List S75, (rnEs fr tw l).length = l.length
  | [] => by rw [rnEs]
  | x :: r => by rw [rnEs, List.length_cons, List.length_cons, rnEs_len r]
theorem rnTs_len : ∀ l : List S77, (rnTs fr tw l).length = l.length
  | [] => by rw [rnTs]
  | x :: r => by rw [rnTs, List.length_cons, List.length_cons, rnTs_len r]
end
end Go.Proofs.Ytfcahachdpjfoaa.L
end
section
namespace Go.Proofs.Ytfcahachdpjfoaa.L
open Go.RowKit Go.Proofs.YtfcahachdpjfoaaW.PrintWords Go.Proofs.YtfcahachdpjfoaaW.PrintLast Go.Proofs.YtfcahachdpjfoaaW.PrintMore Go.Proofs.Ytfcahachdpjfoaa.Gr
set_option linter.unusedVariables false
set_option linter.unusedSimpArgs false
attribute [local go_sem] G.cell
def zEx : Value := .agg #[.int .i64 0, .int .u64 0, .string ⟨#[]⟩, .slice none 0 0]
theorem info75 : (Try.prog.info? 75).map (fun i => (i.zero, i.size, i.bytes)) = some (some zEx, 4, 56) := by kernel_rfl
theorem under73 : Try.prog.underlying 73 = some (.slice 75) := by kernel_rfl
theorem goodEs_len {l : List S75} {x : S75} (hx : x.f3 = l) (h : Ot.goodE x) : l.length * 56 ≤ 140737488351232 := by
  obtain ⟨a, b, s, r⟩ := x
  rw [Ot.goodE] at h
  exact hx ▸ h.2.2.2.1
end Go.Proofs.Ytfcahachdpjfoaa.L
end
section
namespace Go.Proofs.Ytfcahachdpjfoaa.L
open Go.RowKit Go.Proofs.YtfcahachdpjfoaaW.PrintWords Go.Proofs.YtfcahachdpjfoaaW.PrintLast Go.Proofs.YtfcahachdpjfoaaW.PrintMore Go.Proofs.Ytfcahachdpjfoaa.Gr
set_option linter.unusedVariables false
set_option linter.unusedSimpArgs false
attribute [local go_sem] G.cell
def OwnEC (x : S75) : Prop := ∀ (A : Option Addr) (c : Nat) (w : World), k75.C w A x.f3.length x.f3 → x.f3.length ≤ c →
  Calls Try.prog 100 #[.agg #[.int .i64 x.f0, .int .u64 x.f1, .string x.f2, .slice A x.f3.length c]] w fun r w' => ∃ v, r = .returned (.agg #[.int .i64 x.f0, .int .u64 x.f1, .string x.f2, v]) ∧ k75.R 75 w' w.heap.size (fun _ => True) v x.f3 ∧ Below w.heap.size w w'
set_option maxHeartbeats 2000000 in
set_option maxRecDepth 100000 in
theorem ownE_walk (x : S75) (hg : Ot.goodE x) (ih : ∀ y ∈ x.f3, OwnEC y) : OwnEC x := by
  intro A c w hc hl
  have IH := Aside0.mk ih
  have HC := Aside0.mk hc
  have HN := Aside0.mk (goodEs_len rfl hg)
  have hlm := hc.2.1
  clear ih hc hg
  obtain ⟨x0, x1, x2, x3⟩ := x
  simp only at *
  go_enter Try.func100, Try.ntmps100
  go_upto_region 1 with (fail)
  obtain ⟨X, hX⟩ : ∃ X, X = (w.alloc (.cells #[.int .i64 x0, .int .u64 x1, .string x2, .slice A x3.length c] 75)).alloc (.cells #[.int .i64 0, .int .u64 0, .string ⟨#[]⟩, .slice none 0 0] 75) := ⟨_, rfl⟩
  rw [← hX]
  have KX := Aside0.mk (show Below w.heap.size w X ∧ X.heap[w.heap.size]? = some (.cells #[.int .i64 x0, .int .u64 x1, .string x2, .slice A x3.length c] 75 (0, 0)) ∧ X.heap[w.heap.size + 1]? = some (.cells #[.int .i64 0, .int .u64 0, .string ⟨#[]⟩, .slice none 0 0] 75 (0, 0)) from by
    rw [hX]
    exact ⟨((Below.refl _ _).alloc (Nat.le_refl _) _).alloc (by simp) _, blk_alloc (blk_new _ _) _, by simpa using blk_new (w.alloc (.cells #[.int .i64 x0, .int .u64 x1, .string x2, .slice A x3.length c] 75)) (.cells #[.int .i64 0, .int .u64 0, .string ⟨#[]⟩, .slice none 0 0] 75)⟩)
  clear hX
  go_wp2_with fail
  go_loopw [4, 3] (fun i v W => ∃ (k : Nat) (vo : Value), i = .int .i64 k ∧ vo = v ∧ k ≤ x3.length ∧ Aside0 (Below w.heap.size w W ∧ W.heap[w.heap.size]? = some (.cells #[.int .i64 x0, .int .u64 x1, .string x2, .slice A x3.length c] 75 (0, 0)) ∧ W.heap[w.heap.size + 1]? = some (.cells #[.int .i64 0, .int .u64 0, .string ⟨#[]⟩, .slice none 0 0] 75 (0, 0)) ∧ k75.R 75 W w.heap.size (fun b => w.heap.size + 1 < b) vo (x3.take k))) (fun i _ _ => x3.length - (intOf i).toNat)
  case atStart => exact ⟨0, _, rfl, rfl, Nat.zero_le _, ⟨KX.out.1, KX.out.2.1, KX.out.2.2, by rw [List.take_zero]; exact Kd.R_nil _ _ _ _ _⟩⟩
  case round =>
    obtain ⟨k, vo, rfl, rfl, hk, HREL⟩ := hrel
    by_cases hlt : k < x3.length
    · have b0 : ∀ g : G wr, g.W.cell? ⟨w.heap.size, 3, none⟩ = some (.slice A x3.length c) := fun g => (blk_cell (blk_below HREL.out.2.1 g.below) 3).trans rfl
      obtain ⟨ad, A3, c3, e1, q0, q1, q2, q3, l3, g3⟩ := at_T75 HC.out (k : Int) (Int.natCast_nonneg _) (by omega)
      cases e1
      rw [Int.toNat_natCast] at q0 q1 q2 q3
      have gw1 : ∀ g : G wr, Below w.heap.size w g.W := fun g => HREL.out.1.trans (g.below.mono HREL.out.1.size)
      replace q0 := fun g : G wr => held_in (gw1 g) q0
      replace q1 := fun g : G wr => held_in (gw1 g) q1
      replace q2 := fun g : G wr => held_in (gw1 g) q2
      replace q3 := fun g : G wr => held_in (gw1 g) q3
      have hi1 : (k : Int) < (x3.length : Int) := by omega
      have K := Aside0.mk (And.intro l3 g3)
      clear l3 g3
      have IH1 := Aside0.mk (IH.out _ (rd75_mem hlt))
      have T := Aside0.mk (take_rd75 hlt)
      generalize rd_T75 x3 (k : Int) = y at *
      have LT := Aside0.mk (show ∀ b, vo.ownBlock = some b → b < wr.heap.size from by obtain ⟨_, inner, ho, _⟩ := HREL.out.2.2.2; exact fun b hb => own_lt ho b hb)
      refine wp_grown0 ?_
      intro gg
      go_wp2_with fail
      refine (IH1.out A3 c3 gg.W (Kd.C_below K.out.2 (gw1 gg)) K.out.1).mono ?_
      rintro _ w9 ⟨v9, rfl, hR9, hb⟩
      have HP := Aside0.mk (show k75.M w9 w.heap.size (fun b => wr.heap.size ≤ b) y [.int .i64 y.f0, .int .u64 y.f1, .string y.f2, v9] from k75_mkM w9 w.heap.size _ y (Kd.R_lower (Kd.R_mono (Kd.R_bound hR9) (fun b hb => Nat.le_trans gg.below.size hb.2.1)) (gw1 gg).size))
      obtain ⟨g9, hg9⟩ : ∃ g : G wr, g.W = w9 := ⟨mkG (gg.below.trans (hb.mono gg.below.size)), rfl⟩
      subst hg9
      clear hR9 hb
      go_wp2_with (at_builtin; refine Kd.R_append k75 (w0 := w) w.heap.size rfl (.tmp 12) (.tmp 19) 73 75 zEx 56 rfl under73 info75 rfl (show 0 < 4 by decide) (by decide) vo (x3.take k) y [.int .i64 y.f0, .int .u64 y.f1, .string y.f2, v9] (fun b => w.heap.size + 1 < b) (fun b => wr.heap.size ≤ b) rfl rfl HP.out (fun b hb => ⟨Nat.lt_of_lt_of_le (blk_lt HREL.out.2.2.1) hb, some_ne_of_lt LT.out hb⟩) (fun b hb => Nat.lt_of_lt_of_le (blk_lt HREL.out.2.2.1) (Nat.le_trans g9.below.size hb)) (Kd.R_below HREL.out.2.2.2 g9.below) (gw1 g9) (gw1 g9).size (by have := HN.out; have := List.length_take_le k x3; omega) ?_)
      intro v1 w1 hr1 hb1 hg1 hat1
      have NE := Aside0.mk (show ∀ b, b ≤ w.heap.size + 1 → some b ≠ vo.ownBlock from fun b hb he => by have h := HREL.out.2.2.2.1 b he.symm; exact absurd h (Nat.not_lt.2 hb))
      have E0 := Aside0.mk ((hg1.block w.heap.size (Nat.lt_of_lt_of_le (blk_lt HREL.out.2.1) g9.below.size) (NE.out _ (by omega))).trans (blk_below HREL.out.2.1 g9.below))
      have E1 := Aside0.mk ((hg1.block (w.heap.size + 1) (Nat.lt_of_lt_of_le (blk_lt HREL.out.2.2.1) g9.below.size) (NE.out _ (by omega))).trans (blk_below HREL.out.2.2.1 g9.below))
      have W1 := Aside0.mk (And.intro hb1 hr1)
      clear hr1 hb1 hg1 hat1
      go_wp2_with fail
      exact ⟨⟨k + 1, v1, by go_num, rfl, by omega, ⟨W1.out.1, E0.out, E1.out, by rw [T.out]; exact W1.out.2⟩⟩, by simp [intOf]; omega⟩
    · obtain ⟨hB, h0, h1, hR⟩ := HREL.out
      obtain ⟨Av, cv, hv⟩ := Kd.R_slice hR
      rw [List.length_take, Nat.min_eq_left hk] at hv
      subst hv
      have HB := Aside0.mk hB
      have HR := Aside0.mk hR
      have HK := Aside0.mk (And.intro h0 h1)
      have z0 : wr.cell? ⟨w.heap.size, 0, none⟩ = some (.int .i64 x0) := (blk_cell h0 0).trans rfl
      have z1 : wr.cell? ⟨w.heap.size, 1, none⟩ = some (.int .u64 x1) := (blk_cell h0 1).trans rfl
      have z2 : wr.cell? ⟨w.heap.size, 2, none⟩ = some (.string x2) := (blk_cell h0 2).trans rfl
      have z3 : wr.cell? ⟨w.heap.size, 3, none⟩ = some (.slice A x3.length c) := (blk_cell h0 3).trans rfl
      have y3 := blk_frozen h0 3
      have r0 : wr.cell? ⟨w.heap.size + 1, 0, none⟩ = some (.int .i64 0) := (blk_cell h1 0).trans rfl
      have r1 : wr.cell? ⟨w.heap.size + 1, 1, none⟩ = some (.int .u64 0) := (blk_cell h1 1).trans rfl
      have r2 : wr.cell? ⟨w.heap.size + 1, 2, none⟩ = some (.string ⟨#[]⟩) := (blk_cell h1 2).trans rfl
      have r3 : wr.cell? ⟨w.heap.size + 1, 3, none⟩ = some (.slice none 0 0) := (blk_cell h1 3).trans rfl
      have f0 := blk_frozen h1 0
      have f1 := blk_frozen h1 1
      have f2 := blk_frozen h1 2
      have f3 := blk_frozen h1 3
      clear hB hR h0 h1 HREL
      go_wp2_with fail
      refine bodyPost_ret (results_cell_row rfl _ _ (w.heap.size + 1) 75 #[.int .i64 x0, .int .u64 x1, .string x2, .slice Av k cv] (0, 0) _ rfl (blk_put (blk_put (blk_put (blk_put ((Below.heap_setCell _ _ _ _ (show w.heap.size + 1 ≠ w.heap.size by omega)).trans HK.out.2) 0 _ rfl) 1 _ rfl) 2 _ rfl) 3 _ rfl) Try.underlying75 rfl (by kernel_rfl)) rfl ?_
      refine ⟨_, rfl, ?_, ?_⟩
      · have hk2 : k = x3.length := by omega
        subst hk2
        rw [List.take_length] at HR
        exact Kd.R_mono (Kd.R_far (Kd.R_far (Kd.R_far (Kd.R_far (Kd.R_far HR.out (p := ⟨w.heap.size, 3, none⟩) (fun b hb => by show b ≠ w.heap.size; omega) _) (p := ⟨w.heap.size + 1, 0, none⟩) (fun b hb => by show b ≠ w.heap.size + 1; omega) _) (p := ⟨w.heap.size + 1, 1, none⟩) (fun b hb => by show b ≠ w.heap.size + 1; omega) _) (p := ⟨w.heap.size + 1, 2, none⟩) (fun b hb => by show b ≠ w.heap.size + 1; omega) _) (p := ⟨w.heap.size + 1, 3, none⟩) (fun b hb => by show b ≠ w.heap.size + 1; omega) _) (fun _ _ => trivial)
      · exact ((((HB.out.setCell (p := ⟨w.heap.size, 3, none⟩) (show w.heap.size ≤ w.heap.size by omega) _).setCell (p := ⟨w.heap.size + 1, 0, none⟩) (show w.heap.size ≤ w.heap.size + 1 by omega) _).setCell (p := ⟨w.heap.size + 1, 1, none⟩) (show w.heap.size ≤ w.heap.size + 1 by omega) _).setCell (p := ⟨w.heap.size + 1, 2, none⟩) (show w.heap.size ≤ w.heap.size + 1 by omega) _).setCell (p := ⟨w.heap.size + 1, 3, none⟩) (show w.heap.size ≤ w.heap.size + 1 by omega) _
theorem ownE_calls : ∀ (n : Nat) (x : S75), SizeOf.sizeOf x ≤ n → Ot.goodE x → OwnEC x := by
  intro n
  induction n with
  | zero => intro x h; obtain ⟨a, b, c, l⟩ := x; simp at h
  | succ n ih =>
    intro x h hg
    refine ownE_walk x hg fun y hy => ih y (rd75_size rfl hy h) ?_
    obtain ⟨a, b, s, l⟩ := x
    rw [Ot.goodE] at hg
    exact (Ot.goodEs_iff l).1 hg.2.2.2.2 y hy
end Go.Proofs.Ytfcahachdpjfoaa.L
end
section
namespace Go.Proofs.Ytfcahachdpjfoaa.L
open Go.RowKit Go.Proofs.YtfcahachdpjfoaaW.PrintWords Go.Proofs.YtfcahachdpjfoaaW.PrintLast Go.Proofs.YtfcahachdpjfoaaW.PrintMore Go.Proofs.Ytfcahachdpjfoaa.Gr
set_option linter.unusedVariables false
set_option linter.unusedSimpArgs false
attribute [local go_sem] G.cell
def zSt : Value := .agg #[.int .i64 0, .string ⟨#[]⟩, .int .i64 0, .int .u64 0, .string ⟨#[]⟩, .slice none 0 0, .int .i64 0, .int .u64 0, .string ⟨#[]⟩, .slice none 0 0, .int .u64 0, .int .u64 0, .slice none 0 0, .slice none 0 0]
theorem info77 : (Try.prog.info? 77).map (fun i => (i.zero, i.size, i.bytes)) = some (some zSt, 14, 200) := by kernel_rfl
theorem under27 : Try.prog.underlying 27 = some (.slice 77) := by kernel_rfl
end Go.Proofs.Ytfcahachdpjfoaa.L
end
