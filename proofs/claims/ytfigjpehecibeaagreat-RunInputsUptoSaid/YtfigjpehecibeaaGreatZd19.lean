/- Texts joined by a program of mine: Uq Ya Ur Uv Rt Ta. -/
import Derived.Test.YtfigjpehecibeaaGreatZd10
import Derived.Test.YtfigjpehecibeaaGreatZd13
import Derived.Test.YtfigjpehecibeaaGreatZd18
section
namespace Go.Proofs.YtfigjpehecibeaaGreat.L
open Go.RowKit Go.Proofs.YtfigjpehecibeaaGreatW.PrintWords Go.Proofs.YtfigjpehecibeaaGreatW.PrintLast Go.Proofs.YtfigjpehecibeaaGreatW.PrintMore Go.Proofs.YtfigjpehecibeaaGreat.Gr
set_option linter.unusedVariables false
set_option linter.unusedSimpArgs false
def KW : Th → Prop
  | .decl _ => True
  | .stmt s _ _ => 1 ≤ s.f0 ∧ s.f0 ≤ 5
  | .expr e _ => weightE e ≤ 8388608
mutual
theorem kw_exTh : ∀ (e : S116) (lo : List ByteArray), weightE e ≤ 8388608 → ∀ t ∈ exTh e lo, KW t
  | ⟨a, b, s, l⟩, lo, h, t, ht => by
    rw [exTh] at ht
    rcases List.mem_cons.1 ht with rfl | ht
    · exact h
    · rw [weightE] at h
      exact kw_exThs l lo (by omega) t ht
theorem kw_exThs : ∀ (l : List S116) (lo : List ByteArray), weightL l ≤ 8388608 → ∀ t ∈ exThs l lo, KW t
  | [], _, _, t, ht => by rw [exThs] at ht; cases ht
  | x :: r, lo, h, t, ht => by
    rw [weightL] at h
    rw [exThs] at ht
    rcases List.mem_append.1 ht with ht | ht
    · exact kw_exTh x lo (by omega) t ht
    · exact kw_exThs r lo (by omega) t ht
end
mutual
theorem kw_stTh : ∀ (x : S119) (d : Nat) (lo : List ByteArray), stB x = true → Ot.bulkT x ≤ 1048576 → ∀ t ∈ stTh x d lo, KW t
  | ⟨k, nm, e, f, l, h, th, el⟩, d, lo, hs, hb, t, ht => by
    have F := st_form hs
    rw [Ot.bulkT] at hb
    rw [stTh] at ht
    have h1 := weight_bulk e
    have h2 := weight_bulk f
    rcases List.mem_cons.1 ht with rfl | ht
    · exact ⟨F.1, F.2.1⟩
    · rcases List.mem_append.1 ht with ht | ht
      · rcases List.mem_append.1 ht with ht | ht
        · split at ht
          · exact kw_exTh e lo (by omega) t ht
          · cases ht
        · split at ht
          · exact kw_exTh f lo (by omega) t ht
          · cases ht
      · rcases List.mem_append.1 ht with ht | ht
        · exact kw_stThs th _ _ F.2.2.2.2.1 (by omega) t ht
        · exact kw_stThs el _ _ F.2.2.2.2.2 (by omega) t ht
theorem kw_stThs : ∀ (l : List S119) (d : Nat) (lo : List ByteArray), bdB l = true → Ot.bulkTs l ≤ 1048576 → ∀ t ∈ stThs l d lo, KW t
  | [], _, _, _, _, t, ht => by rw [stThs] at ht; cases ht
  | x :: r, d, lo, hs, hb, t, ht => by
    rw [bdB_all, List.all_cons, Bool.and_eq_true, ← bdB_all] at hs
    rw [Ot.bulkTs] at hb
    rw [stThs] at ht
    rcases List.mem_append.1 ht with ht | ht
    · exact kw_stTh x d lo hs.1 (by omega) t ht
    · exact kw_stThs r d lo hs.2 (by omega) t ht
end
theorem rw_things {ds : List S70} {bd : List S119} (h : ∀ t ∈ bd, Ot.goodT t) (hf : bdB bd = true) (hb : Ot.bulkTs bd ≤ 1048576) : ∀ t ∈ things ds bd, RW t := by
  intro t ht
  have h1 := good_things (ds := ds) h t ht
  have h2 : KW t := by
    unfold things at ht
    rcases List.mem_append.1 ht with ht | ht
    · obtain ⟨i, _, rfl⟩ := List.mem_map.1 ht
      trivial
    · exact kw_stThs bd 1 [] hf hb t ht
  cases t with
  | decl i => exact ⟨⟨h1, trivial⟩, trivial⟩
  | stmt s d l => exact ⟨⟨h1, h2⟩, trivial⟩
  | expr e l => exact ⟨⟨h1, trivial⟩, h2⟩
theorem firstS_no {f : Th → Bool} {l : List Th} (h : (firstS f l).2 = false) : firstN l.length (fun i => f (thAt l i)) = none := by
  unfold firstS at h
  cases e : firstN l.length (fun i => f (thAt l i)) with
  | none => rfl
  | some i => rw [e] at h; cases h
theorem firstS_yes {f : Th → Bool} {l : List Th} (h : (firstS f l).2 = true) : ∃ i : Nat, firstN l.length (fun i => f (thAt l i)) = some i ∧ (firstS f l).1 = (i : Int) := by
  unfold firstS at h ⊢
  cases e : firstN l.length (fun i => f (thAt l i)) with
  | none => rw [e] at h; cases h
  | some i => exact ⟨i, rfl, rfl⟩
theorem firstD_no {f : Nat → Bool} {n : Nat} (h : (firstD f n).2 = false) : firstN n f = none := by
  unfold firstD at h
  cases e : firstN n f with
  | none => rfl
  | some i => rw [e] at h; cases h
theorem firstD_yes {f : Nat → Bool} {n : Nat} (h : (firstD f n).2 = true) : ∃ i : Nat, firstN n f = some i ∧ (firstD f n).1 = (i : Int) := by
  unfold firstD at h ⊢
  cases e : firstN n f with
  | none => rw [e] at h; cases h
  | some i => exact ⟨i, rfl, rfl⟩
theorem firstN_all {n : Nat} {f : Nat → Bool} (h : firstN n f = none) : ∀ j, j < n → f j = false := by
  rcases firstN_cases n f with ⟨_, h2⟩ | ⟨i, _, h1, _, _⟩
  · exact h2
  · rw [h] at h1; cases h1
theorem firstS_mem {f : Th → Bool} {l : List Th} (h : (firstS f l).2 = false) : ∀ t ∈ l, f t = false := by
  intro t ht
  obtain ⟨i, hi, rfl⟩ := List.getElem_of_mem ht
  have := firstN_all (firstS_no h) i hi
  rwa [thAt_lt hi] at this
def cR (nm : ByteArray) (wd ln : Int) (ds : List S70) (bd : List S119) : Nat → Int × Bool
  | 0 => (-1, !formB nm wd ln ds bd)
  | 1 => (-1, !widthB wd)
  | 2 => (-1, !pow2B ln)
  | 3 => (-1, !decide (ds.length ≤ 256))
  | 4 => firstD (twiceB ds) ds.length
  | 5 => firstD (sizeBad ds) ds.length
  | 6 => firstD (valuesBad ds) ds.length
  | 7 => firstD (rangeBad wd ds) ds.length
  | 8 => (-1, !decide (wordsS ds ≤ 4096))
  | 9 => firstS (badC wd ds 10) (things ds bd)
  | 10 => firstS (badC wd ds 11) (things ds bd)
  | 11 => firstS (badC wd ds 12) (things ds bd)
  | 12 => firstS (badC wd ds 13) (things ds bd)
  | 13 => firstS (badC wd ds 14) (things ds bd)
  | 14 => firstS (badC wd ds 15) (things ds bd)
  | _ => (-1, !decide (sizeB bd ≤ 65536))
def cF : Nat → FuncId
  | 4 => 247
  | 5 => 247
  | 6 => 247
  | 7 => 247
  | 9 => 249
  | 10 => 249
  | 11 => 249
  | 12 => 249
  | 13 => 249
  | 14 => 249
  | _ => 246
def cE : Nat → Int
  | 0 => 1
  | 1 => 5
  | 2 => 163
  | 3 => 4
  | 4 => 160
  | 5 => 163
  | 6 => 164
  | 7 => 165
  | 8 => 169
  | 9 => 152
  | 10 => 161
  | 11 => 162
  | 12 => 165
  | 13 => 166
  | 14 => 167
  | _ => 168
theorem b_no {b : Bool} (h : (!b) = false) : b = true := by cases b <;> simp_all
theorem b_yes {b : Bool} (h : (!b) = true) : b = false := by cases b <;> simp_all
theorem d_no {p : Prop} [Decidable p] (h : (!decide p) = false) : p := by simpa using h
theorem d_yes {p : Prop} [Decidable p] (h : (!decide p) = true) : ¬ p := by simpa using h
set_option maxRecDepth 100000 in
theorem clause_calls (nm : ByteArray) (wd ln : Int) (ds : List S70) (bd : List S119) (A3 : Option Addr) (c3 : Nat) (A4 : Option Addr) (c4 : Nat) (b : Nat) (X : World) (hp : ProgAt X ds bd A3 c3 A4 c4) (hg : PGood nm wd ln ds bd) (hbx : ∀ i, i < 16 → X.heap[b + i]? = (clL b)[i]?) (k : Nat) (hk : k < 16) (hprev : ∀ j, j < k → (cR nm wd ln ds bd j).2 = false) :
    Calls Tryz.prog (cF k) #[.agg #[.string nm, .int .i64 wd, .int .i64 ln, .slice A3 ds.length c3, .slice A4 bd.length c4], .pointer (some ⟨b + k, 0, none⟩)] X fun e w' => e = .returned (.tuple #[.int .i64 (cR nm wd ln ds bd k).1, .bool (cR nm wd ln ds bd k).2]) ∧ Below X.heap.size X w' := by
  have hdl := hg.sizes.1
  have hbk := hg.sizes.2
  have FF : 0 < k → 0 ≤ wd ∧ 0 ≤ ln ∧ (∀ d ∈ ds, 0 ≤ d.f2) ∧ bdB bd = true := fun h => form_facts (b_no (hprev 0 h))
  have RWt : 0 < k → ∀ t ∈ things ds bd, RW t := fun h => rw_things hg.good.bd (FF h).2.2.2 hbk
  have HV : ∀ d ∈ ds, ∀ v ∈ d.f3, 0 ≤ v := fun d hd v hv => (okU_b ((hg.good.ds d hd).2.2.2.2 v hv)).1
  have hcs : k = 0 ∨ k = 1 ∨ k = 2 ∨ k = 3 ∨ k = 4 ∨ k = 5 ∨ k = 6 ∨ k = 7 ∨ k = 8 ∨ k = 9 ∨ k = 10 ∨ k = 11 ∨ k = 12 ∨ k = 13 ∨ k = 14 ∨ k = 15 := by omega
  rcases hcs with rfl | rfl | rfl | rfl | rfl | rfl | rfl | rfl | rfl | rfl | rfl | rfl | rfl | rfl | rfl | rfl
  · exact whole44_calls nm wd ln ds bd A3 c3 A4 c4 (b + 0) X ((hbx 0 (by decide)).trans rfl) (formB nm wd ln ds bd) fun Y hY => wf_v (hp.below hY) rfl
  · exact whole45_calls nm wd ln ds bd A3 c3 A4 c4 (b + 1) X ((hbx 1 (by decide)).trans rfl) (widthB wd) fun Y hY => c45_calls nm wd ln ds bd A3 c3 A4 c4 Y _ rfl
  · exact whole47_calls nm wd ln ds bd A3 c3 A4 c4 (b + 2) X ((hbx 2 (by decide)).trans rfl) (pow2B ln) fun Y hY => c47_calls nm wd ln ds bd A3 c3 A4 c4 Y _ rfl
  · exact whole48_calls nm wd ln ds bd A3 c3 A4 c4 (b + 3) X ((hbx 3 (by decide)).trans rfl) (decide (ds.length ≤ 256)) fun Y hY => c48_calls nm wd ln ds bd A3 c3 A4 c4 Y hdl _ rfl
  · exact decls50_calls nm wd ln ds bd A3 c3 A4 c4 (b + 4) X hdl ((hbx 4 (by decide)).trans rfl) (twiceB ds) (fun Y i hY hi => c50_calls nm wd ln ds bd A3 c3 A4 c4 Y (hp.below hY).hd hp.hld i hi _ rfl) _ rfl
  · exact decls52_calls nm wd ln ds bd A3 c3 A4 c4 (b + 5) X hdl ((hbx 5 (by decide)).trans rfl) (sizeBad ds) (fun Y i hY hi => c52_calls nm wd ln ds bd A3 c3 A4 c4 Y (hp.below hY).hd i hi _ rfl) _ rfl
  · exact decls53_calls nm wd ln ds bd A3 c3 A4 c4 (b + 6) X hdl ((hbx 6 (by decide)).trans rfl) (valuesBad ds) (fun Y i hY hi => c53_calls nm wd ln ds bd A3 c3 A4 c4 Y (hp.below hY).hd i hi _ rfl) _ rfl
  · exact decls54_calls nm wd ln ds bd A3 c3 A4 c4 (b + 7) X hdl ((hbx 7 (by decide)).trans rfl) (rangeBad wd ds) (fun Y i hY hi => c54_calls nm wd ln ds bd A3 c3 A4 c4 Y (hp.below hY).hd (FF (by decide)).1 HV i hi _ rfl) _ rfl
  · have HW : ∀ d ∈ ds, d.f2 = 0 ∨ pow2B d.f2 = true := by
      intro d hd
      obtain ⟨i, hi, rfl⟩ := List.getElem_of_mem hd
      have h := size_good (firstN_all (firstD_no (hprev 5 (by decide))) i hi)
      have e : rd_T70 ds (i : Int) = ds[i] := by unfold rd_T70; rw [Int.toNat_natCast, List.getD_eq_getElem?_getD, List.getElem?_eq_getElem hi]; rfl
      rwa [e] at h
    exact whole58_calls nm wd ln ds bd A3 c3 A4 c4 (b + 8) X ((hbx 8 (by decide)).trans rfl) (decide (wordsS ds ≤ 4096)) fun Y hY => c58_calls nm wd ln ds bd A3 c3 A4 c4 Y (hp.below hY).hd hdl HW _ rfl
  · refine things1_calls (R := RW) (f := badC wd ds 10) nm wd ln ds bd A3 c3 A4 c4 (b + 9) X hp (FF (by decide)).2.2.2 hdl hbk (RWt (by decide)) (fun Y b2 hY h2 => wrong61_ok (W0 := Y) (nm := nm) (wd := wd) (ln := ln) (ds := ds) (bd := bd) (A3 := A3) (c3 := c3) (A4 := A4) (c4 := c4) ?_ ((hY.block _ (blk_lt ((hbx 9 (by decide)).trans rfl))).trans ((hbx 9 (by decide)).trans rfl)) h2) _ rfl
    intro Wb W n dp sp ep dI lp t hR h0 hB ht
    exact cl10_calls nm wd ln ds bd A3 c3 A4 c4 W n dp sp ep dI lp t hR hB ht _ rfl
  · refine things1_calls (R := RW) (f := badC wd ds 11) nm wd ln ds bd A3 c3 A4 c4 (b + 10) X hp (FF (by decide)).2.2.2 hdl hbk (RWt (by decide)) (fun Y b2 hY h2 => wrong63_ok (W0 := Y) (nm := nm) (wd := wd) (ln := ln) (ds := ds) (bd := bd) (A3 := A3) (c3 := c3) (A4 := A4) (c4 := c4) ?_ ((hY.block _ (blk_lt ((hbx 10 (by decide)).trans rfl))).trans ((hbx 10 (by decide)).trans rfl)) h2) _ rfl
    intro Wb W n dp sp ep dI lp t hR h0 hB ht
    exact cl11_calls nm wd ln ds bd A3 c3 A4 c4 ((hp.below hY).below h0) W n dp sp ep dI lp t hR.1 hB ht _ rfl
  · refine things1_calls (R := (fun t => RW t ∧ bad11 ds t = false)) (f := badC wd ds 12) nm wd ln ds bd A3 c3 A4 c4 (b + 11) X hp (FF (by decide)).2.2.2 hdl hbk (fun t ht => ⟨RWt (by decide) t ht, firstS_mem (hprev 10 (by decide)) t ht⟩) (fun Y b2 hY h2 => wrong66_ok (W0 := Y) (nm := nm) (wd := wd) (ln := ln) (ds := ds) (bd := bd) (A3 := A3) (c3 := c3) (A4 := A4) (c4 := c4) ?_ ((hY.block _ (blk_lt ((hbx 11 (by decide)).trans rfl))).trans ((hbx 11 (by decide)).trans rfl)) h2) _ rfl
    intro Wb W n dp sp ep dI lp t hR h0 hB ht
    exact cl12_calls nm wd ln ds bd A3 c3 A4 c4 ((hp.below hY).below h0) (FF (by decide)).2.2.1 W n dp sp ep dI lp t hR.1.1 hB ht hR.2 _ rfl
  · refine things1_calls (R := RW) (f := badC wd ds 13) nm wd ln ds bd A3 c3 A4 c4 (b + 12) X hp (FF (by decide)).2.2.2 hdl hbk (RWt (by decide)) (fun Y b2 hY h2 => wrong68_ok (W0 := Y) (nm := nm) (wd := wd) (ln := ln) (ds := ds) (bd := bd) (A3 := A3) (c3 := c3) (A4 := A4) (c4 := c4) ?_ ((hY.block _ (blk_lt ((hbx 12 (by decide)).trans rfl))).trans ((hbx 12 (by decide)).trans rfl)) h2) _ rfl
    intro Wb W n dp sp ep dI lp t hR h0 hB ht
    exact cl13_calls nm wd ln ds bd A3 c3 A4 c4 ((hp.below hY).below h0) (FF (by decide)).1 W n dp sp ep dI lp t hR.1 hB ht _ rfl
  · refine things1_calls (R := RW) (f := badC wd ds 14) nm wd ln ds bd A3 c3 A4 c4 (b + 13) X hp (FF (by decide)).2.2.2 hdl hbk (RWt (by decide)) (fun Y b2 hY h2 => wrong69_ok (W0 := Y) (nm := nm) (wd := wd) (ln := ln) (ds := ds) (bd := bd) (A3 := A3) (c3 := c3) (A4 := A4) (c4 := c4) ?_ ((hY.block _ (blk_lt ((hbx 13 (by decide)).trans rfl))).trans ((hbx 13 (by decide)).trans rfl)) h2) _ rfl
    intro Wb W n dp sp ep dI lp t hR h0 hB ht
    exact cl14_calls nm wd ln ds bd A3 c3 A4 c4 ((hp.below hY).below h0) (b_no (hprev 1 (by decide))) W n dp sp ep dI lp t hR.1 hB ht _ rfl
  · refine things1_calls (R := RW) (f := badC wd ds 15) nm wd ln ds bd A3 c3 A4 c4 (b + 14) X hp (FF (by decide)).2.2.2 hdl hbk (RWt (by decide)) (fun Y b2 hY h2 => wrong70_ok (W0 := Y) (nm := nm) (wd := wd) (ln := ln) (ds := ds) (bd := bd) (A3 := A3) (c3 := c3) (A4 := A4) (c4 := c4) ?_ ((hY.block _ (blk_lt ((hbx 14 (by decide)).trans rfl))).trans ((hbx 14 (by decide)).trans rfl)) h2) _ rfl
    intro Wb W n dp sp ep dI lp t hR h0 hB ht
    exact cl15_calls nm wd ln ds bd A3 c3 A4 c4 ((hp.below hY).below h0) W n dp sp ep dI lp t hR.1 hB ht _ rfl
  · exact whole71_calls nm wd ln ds bd A3 c3 A4 c4 (b + 15) X ((hbx 15 (by decide)).trans rfl) (decide (sizeB bd ≤ 65536)) fun Y hY => c71_calls nm wd ln ds bd A3 c3 A4 c4 Y (hp.below hY).hb hp.hlb ((Ot.goodTs_iff bd).2 hg.good.bd) hbk _ rfl
theorem faultS_at {nm : ByteArray} {wd ln : Int} {ds : List S70} {bd : List S119} {k : Nat} (hk : k < 16) (hprev : ∀ j, j < k → (cR nm wd ln ds bd j).2 = false) (hb : (cR nm wd ln ds bd k).2 = true) : faultS nm wd ln ds bd = ⟨(k : Int) + 1, (cR nm wd ln ds bd k).1, cE k⟩ := by
  have hcs : k = 0 ∨ k = 1 ∨ k = 2 ∨ k = 3 ∨ k = 4 ∨ k = 5 ∨ k = 6 ∨ k = 7 ∨ k = 8 ∨ k = 9 ∨ k = 10 ∨ k = 11 ∨ k = 12 ∨ k = 13 ∨ k = 14 ∨ k = 15 := by omega
  rcases hcs with rfl | rfl | rfl | rfl | rfl | rfl | rfl | rfl | rfl | rfl | rfl | rfl | rfl | rfl | rfl | rfl
  · have hh : formB nm wd ln ds bd = false := b_yes hb
    simp only [faultS, faultD, faultC, errC, Bool.true_eq_false, if_false, if_true, reduceIte, reduceCtorEq, Nat.reduceSub, hh] <;> rfl
  · have h0 : formB nm wd ln ds bd = true := b_no (hprev 0 (by decide))
    have hh : widthB wd = false := b_yes hb
    simp only [faultS, faultD, faultC, errC, Bool.true_eq_false, if_false, if_true, reduceIte, reduceCtorEq, Nat.reduceSub, hh, h0] <;> rfl
  · have h0 : formB nm wd ln ds bd = true := b_no (hprev 0 (by decide))
    have h1 : widthB wd = true := b_no (hprev 1 (by decide))
    have hh : pow2B ln = false := b_yes hb
    simp only [faultS, faultD, faultC, errC, Bool.true_eq_false, if_false, if_true, reduceIte, reduceCtorEq, Nat.reduceSub, hh, h0, h1] <;> rfl
  · have h0 : formB nm wd ln ds bd = true := b_no (hprev 0 (by decide))
    have h1 : widthB wd = true := b_no (hprev 1 (by decide))
    have h2 : pow2B ln = true := b_no (hprev 2 (by decide))
    have hh : 256 < ds.length := Nat.not_le.1 (d_yes hb)
    simp only [faultS, faultD, faultC, errC, Bool.true_eq_false, if_false, if_true, reduceIte, reduceCtorEq, Nat.reduceSub, hh, h0, h1, h2] <;> rfl
  · have h0 : formB nm wd ln ds bd = true := b_no (hprev 0 (by decide))
    have h1 : widthB wd = true := b_no (hprev 1 (by decide))
    have h2 : pow2B ln = true := b_no (hprev 2 (by decide))
    have h3 : ¬ 256 < ds.length := Nat.not_lt.2 (d_no (hprev 3 (by decide)))
    obtain ⟨i, hh, hv⟩ := firstD_yes hb
    have hv2 : (cR nm wd ln ds bd 4).1 = (i : Int) := hv
    simp only [faultS, faultD, faultC, errC, Bool.true_eq_false, if_false, if_true, reduceIte, reduceCtorEq, Nat.reduceSub, hh, hv2, h0, h1, h2, h3] <;> rfl
  · have h0 : formB nm wd ln ds bd = true := b_no (hprev 0 (by decide))
    have h1 : widthB wd = true := b_no (hprev 1 (by decide))
    have h2 : pow2B ln = true := b_no (hprev 2 (by decide))
    have h3 : ¬ 256 < ds.length := Nat.not_lt.2 (d_no (hprev 3 (by decide)))
    have h4 : firstN ds.length (twiceB ds) = none := firstD_no (hprev 4 (by decide))
    obtain ⟨i, hh, hv⟩ := firstD_yes hb
    have hv2 : (cR nm wd ln ds bd 5).1 = (i : Int) := hv
    simp only [faultS, faultD, faultC, errC, Bool.true_eq_false, if_false, if_true, reduceIte, reduceCtorEq, Nat.reduceSub, hh, hv2, h0, h1, h2, h3, h4] <;> rfl
  · have h0 : formB nm wd ln ds bd = true := b_no (hprev 0 (by decide))
    have h1 : widthB wd = true := b_no (hprev 1 (by decide))
    have h2 : pow2B ln = true := b_no (hprev 2 (by decide))
    have h3 : ¬ 256 < ds.length := Nat.not_lt.2 (d_no (hprev 3 (by decide)))
    have h4 : firstN ds.length (twiceB ds) = none := firstD_no (hprev 4 (by decide))
    have h5 : firstN ds.length (sizeBad ds) = none := firstD_no (hprev 5 (by decide))
    obtain ⟨i, hh, hv⟩ := firstD_yes hb
    have hv2 : (cR nm wd ln ds bd 6).1 = (i : Int) := hv
    simp only [faultS, faultD, faultC, errC, Bool.true_eq_false, if_false, if_true, reduceIte, reduceCtorEq, Nat.reduceSub, hh, hv2, h0, h1, h2, h3, h4, h5] <;> rfl
  · have h0 : formB nm wd ln ds bd = true := b_no (hprev 0 (by decide))
    have h1 : widthB wd = true := b_no (hprev 1 (by decide))
    have h2 : pow2B ln = true := b_no (hprev 2 (by decide))
    have h3 : ¬ 256 < ds.length := Nat.not_lt.2 (d_no (hprev 3 (by decide)))
    have h4 : firstN ds.length (twiceB ds) = none := firstD_no (hprev 4 (by decide))
    have h5 : firstN ds.length (sizeBad ds) = none := firstD_no (hprev 5 (by decide))
    have h6 : firstN ds.length (valuesBad ds) = none := firstD_no (hprev 6 (by decide))
    obtain ⟨i, hh, hv⟩ := firstD_yes hb
    have hv2 : (cR nm wd ln ds bd 7).1 = (i : Int) := hv
    simp only [faultS, faultD, faultC, errC, Bool.true_eq_false, if_false, if_true, reduceIte, reduceCtorEq, Nat.reduceSub, hh, hv2, h0, h1, h2, h3, h4, h5, h6] <;> rfl
  · have h0 : formB nm wd ln ds bd = true := b_no (hprev 0 (by decide))
    have h1 : widthB wd = true := b_no (hprev 1 (by decide))
    have h2 : pow2B ln = true := b_no (hprev 2 (by decide))
    have h3 : ¬ 256 < ds.length := Nat.not_lt.2 (d_no (hprev 3 (by decide)))
    have h4 : firstN ds.length (twiceB ds) = none := firstD_no (hprev 4 (by decide))
    have h5 : firstN ds.length (sizeBad ds) = none := firstD_no (hprev 5 (by decide))
    have h6 : firstN ds.length (valuesBad ds) = none := firstD_no (hprev 6 (by decide))
    have h7 : firstN ds.length (rangeBad wd ds) = none := firstD_no (hprev 7 (by decide))
    have hh : 4096 < wordsS ds := Int.not_le.1 (d_yes hb)
    simp only [faultS, faultD, faultC, errC, Bool.true_eq_false, if_false, if_true, reduceIte, reduceCtorEq, Nat.reduceSub, hh, h0, h1, h2, h3, h4, h5, h6, h7] <;> rfl
  · have h0 : formB nm wd ln ds bd = true := b_no (hprev 0 (by decide))
    have h1 : widthB wd = true := b_no (hprev 1 (by decide))
    have h2 : pow2B ln = true := b_no (hprev 2 (by decide))
    have h3 : ¬ 256 < ds.length := Nat.not_lt.2 (d_no (hprev 3 (by decide)))
    have h4 : firstN ds.length (twiceB ds) = none := firstD_no (hprev 4 (by decide))
    have h5 : firstN ds.length (sizeBad ds) = none := firstD_no (hprev 5 (by decide))
    have h6 : firstN ds.length (valuesBad ds) = none := firstD_no (hprev 6 (by decide))
    have h7 : firstN ds.length (rangeBad wd ds) = none := firstD_no (hprev 7 (by decide))
    have h8 : ¬ 4096 < wordsS ds := Int.not_lt.2 (d_no (hprev 8 (by decide)))
    obtain ⟨i, hh, hv⟩ := firstS_yes hb
    have hv2 : (cR nm wd ln ds bd 9).1 = (i : Int) := hv
    have hh : firstBad wd ds (things ds bd) 10 = some i := hh
    simp only [faultS, faultD, faultC, errC, Bool.true_eq_false, if_false, if_true, reduceIte, reduceCtorEq, Nat.reduceSub, hh, hv2, h0, h1, h2, h3, h4, h5, h6, h7, h8] <;> rfl
  · have h0 : formB nm wd ln ds bd = true := b_no (hprev 0 (by decide))
    have h1 : widthB wd = true := b_no (hprev 1 (by decide))
    have h2 : pow2B ln = true := b_no (hprev 2 (by decide))
    have h3 : ¬ 256 < ds.length := Nat.not_lt.2 (d_no (hprev 3 (by decide)))
    have h4 : firstN ds.length (twiceB ds) = none := firstD_no (hprev 4 (by decide))
    have h5 : firstN ds.length (sizeBad ds) = none := firstD_no (hprev 5 (by decide))
    have h6 : firstN ds.length (valuesBad ds) = none := firstD_no (hprev 6 (by decide))
    have h7 : firstN ds.length (rangeBad wd ds) = none := firstD_no (hprev 7 (by decide))
    have h8 : ¬ 4096 < wordsS ds := Int.not_lt.2 (d_no (hprev 8 (by decide)))
    have h9 : firstBad wd ds (things ds bd) 10 = none := firstS_no (hprev 9 (by decide))
    obtain ⟨i, hh, hv⟩ := firstS_yes hb
    have hv2 : (cR nm wd ln ds bd 10).1 = (i : Int) := hv
    have hh : firstBad wd ds (things ds bd) 11 = some i := hh
    simp only [faultS, faultD, faultC, errC, Bool.true_eq_false, if_false, if_true, reduceIte, reduceCtorEq, Nat.reduceSub, hh, hv2, h0, h1, h2, h3, h4, h5, h6, h7, h8, h9] <;> rfl
  · have h0 : formB nm wd ln ds bd = true := b_no (hprev 0 (by decide))
    have h1 : widthB wd = true := b_no (hprev 1 (by decide))
    have h2 : pow2B ln = true := b_no (hprev 2 (by decide))
    have h3 : ¬ 256 < ds.length := Nat.not_lt.2 (d_no (hprev 3 (by decide)))
    have h4 : firstN ds.length (twiceB ds) = none := firstD_no (hprev 4 (by decide))
    have h5 : firstN ds.length (sizeBad ds) = none := firstD_no (hprev 5 (by decide))
    have h6 : firstN ds.length (valuesBad ds) = none := firstD_no (hprev 6 (by decide))
    have h7 : firstN ds.length (rangeBad wd ds) = none := firstD_no (hprev 7 (by decide))
    have h8 : ¬ 4096 < wordsS ds := Int.not_lt.2 (d_no (hprev 8 (by decide)))
    have h9 : firstBad wd ds (things ds bd) 10 = none := firstS_no (hprev 9 (by decide))
    have h10 : firstBad wd ds (things ds bd) 11 = none := firstS_no (hprev 10 (by decide))
    obtain ⟨i, hh, hv⟩ := firstS_yes hb
    have hv2 : (cR nm wd ln ds bd 11).1 = (i : Int) := hv
    have hh : firstBad wd ds (things ds bd) 12 = some i := hh
    simp only [faultS, faultD, faultC, errC, Bool.true_eq_false, if_false, if_true, reduceIte, reduceCtorEq, Nat.reduceSub, hh, hv2, h0, h1, h2, h3, h4, h5, h6, h7, h8, h9, h10] <;> rfl
  · have h0 : formB nm wd ln ds bd = true := b_no (hprev 0 (by decide))
    have h1 : widthB wd = true := b_no (hprev 1 (by decide))
    have h2 : pow2B ln = true := b_no (hprev 2 (by decide))
    have h3 : ¬ 256 < ds.length := Nat.not_lt.2 (d_no (hprev 3 (by decide)))
    have h4 : firstN ds.length (twiceB ds) = none := firstD_no (hprev 4 (by decide))
    have h5 : firstN ds.length (sizeBad ds) = none := firstD_no (hprev 5 (by decide))
    have h6 : firstN ds.length (valuesBad ds) = none := firstD_no (hprev 6 (by decide))
    have h7 : firstN ds.length (rangeBad wd ds) = none := firstD_no (hprev 7 (by decide))
    have h8 : ¬ 4096 < wordsS ds := Int.not_lt.2 (d_no (hprev 8 (by decide)))
    have h9 : firstBad wd ds (things ds bd) 10 = none := firstS_no (hprev 9 (by decide))
    have h10 : firstBad wd ds (things ds bd) 11 = none := firstS_no (hprev 10 (by decide))
    have h11 : firstBad wd ds (things ds bd) 12 = none := firstS_no (hprev 11 (by decide))
    obtain ⟨i, hh, hv⟩ := firstS_yes hb
    have hv2 : (cR nm wd ln ds bd 12).1 = (i : Int) := hv
    have hh : firstBad wd ds (things ds bd) 13 = some i := hh
    simp only [faultS, faultD, faultC, errC, Bool.true_eq_false, if_false, if_true, reduceIte, reduceCtorEq, Nat.reduceSub, hh, hv2, h0, h1, h2, h3, h4, h5, h6, h7, h8, h9, h10, h11] <;> rfl
  · have h0 : formB nm wd ln ds bd = true := b_no (hprev 0 (by decide))
    have h1 : widthB wd = true := b_no (hprev 1 (by decide))
    have h2 : pow2B ln = true := b_no (hprev 2 (by decide))
    have h3 : ¬ 256 < ds.length := Nat.not_lt.2 (d_no (hprev 3 (by decide)))
    have h4 : firstN ds.length (twiceB ds) = none := firstD_no (hprev 4 (by decide))
    have h5 : firstN ds.length (sizeBad ds) = none := firstD_no (hprev 5 (by decide))
    have h6 : firstN ds.length (valuesBad ds) = none := firstD_no (hprev 6 (by decide))
    have h7 : firstN ds.length (rangeBad wd ds) = none := firstD_no (hprev 7 (by decide))
    have h8 : ¬ 4096 < wordsS ds := Int.not_lt.2 (d_no (hprev 8 (by decide)))
    have h9 : firstBad wd ds (things ds bd) 10 = none := firstS_no (hprev 9 (by decide))
    have h10 : firstBad wd ds (things ds bd) 11 = none := firstS_no (hprev 10 (by decide))
    have h11 : firstBad wd ds (things ds bd) 12 = none := firstS_no (hprev 11 (by decide))
    have h12 : firstBad wd ds (things ds bd) 13 = none := firstS_no (hprev 12 (by decide))
    obtain ⟨i, hh, hv⟩ := firstS_yes hb
    have hv2 : (cR nm wd ln ds bd 13).1 = (i : Int) := hv
    have hh : firstBad wd ds (things ds bd) 14 = some i := hh
    simp only [faultS, faultD, faultC, errC, Bool.true_eq_false, if_false, if_true, reduceIte, reduceCtorEq, Nat.reduceSub, hh, hv2, h0, h1, h2, h3, h4, h5, h6, h7, h8, h9, h10, h11, h12] <;> rfl
  · have h0 : formB nm wd ln ds bd = true := b_no (hprev 0 (by decide))
    have h1 : widthB wd = true := b_no (hprev 1 (by decide))
    have h2 : pow2B ln = true := b_no (hprev 2 (by decide))
    have h3 : ¬ 256 < ds.length := Nat.not_lt.2 (d_no (hprev 3 (by decide)))
    have h4 : firstN ds.length (twiceB ds) = none := firstD_no (hprev 4 (by decide))
    have h5 : firstN ds.length (sizeBad ds) = none := firstD_no (hprev 5 (by decide))
    have h6 : firstN ds.length (valuesBad ds) = none := firstD_no (hprev 6 (by decide))
    have h7 : firstN ds.length (rangeBad wd ds) = none := firstD_no (hprev 7 (by decide))
    have h8 : ¬ 4096 < wordsS ds := Int.not_lt.2 (d_no (hprev 8 (by decide)))
    have h9 : firstBad wd ds (things ds bd) 10 = none := firstS_no (hprev 9 (by decide))
    have h10 : firstBad wd ds (things ds bd) 11 = none := firstS_no (hprev 10 (by decide))
    have h11 : firstBad wd ds (things ds bd) 12 = none := firstS_no (hprev 11 (by decide))
    have h12 : firstBad wd ds (things ds bd) 13 = none := firstS_no (hprev 12 (by decide))
    have h13 : firstBad wd ds (things ds bd) 14 = none := firstS_no (hprev 13 (by decide))
    obtain ⟨i, hh, hv⟩ := firstS_yes hb
    have hv2 : (cR nm wd ln ds bd 14).1 = (i : Int) := hv
    have hh : firstBad wd ds (things ds bd) 15 = some i := hh
    simp only [faultS, faultD, faultC, errC, Bool.true_eq_false, if_false, if_true, reduceIte, reduceCtorEq, Nat.reduceSub, hh, hv2, h0, h1, h2, h3, h4, h5, h6, h7, h8, h9, h10, h11, h12, h13] <;> rfl
  · have h0 : formB nm wd ln ds bd = true := b_no (hprev 0 (by decide))
    have h1 : widthB wd = true := b_no (hprev 1 (by decide))
    have h2 : pow2B ln = true := b_no (hprev 2 (by decide))
    have h3 : ¬ 256 < ds.length := Nat.not_lt.2 (d_no (hprev 3 (by decide)))
    have h4 : firstN ds.length (twiceB ds) = none := firstD_no (hprev 4 (by decide))
    have h5 : firstN ds.length (sizeBad ds) = none := firstD_no (hprev 5 (by decide))
    have h6 : firstN ds.length (valuesBad ds) = none := firstD_no (hprev 6 (by decide))
    have h7 : firstN ds.length (rangeBad wd ds) = none := firstD_no (hprev 7 (by decide))
    have h8 : ¬ 4096 < wordsS ds := Int.not_lt.2 (d_no (hprev 8 (by decide)))
    have h9 : firstBad wd ds (things ds bd) 10 = none := firstS_no (hprev 9 (by decide))
    have h10 : firstBad wd ds (things ds bd) 11 = none := firstS_no (hprev 10 (by decide))
    have h11 : firstBad wd ds (things ds bd) 12 = none := firstS_no (hprev 11 (by decide))
    have h12 : firstBad wd ds (things ds bd) 13 = none := firstS_no (hprev 12 (by decide))
    have h13 : firstBad wd ds (things ds bd) 14 = none := firstS_no (hprev 13 (by decide))
    have h14 : firstBad wd ds (things ds bd) 15 = none := firstS_no (hprev 14 (by decide))
    have hh : 65536 < sizeB bd := Nat.not_le.1 (d_yes hb)
    simp only [faultS, faultD, faultC, errC, Bool.true_eq_false, if_false, if_true, reduceIte, reduceCtorEq, Nat.reduceSub, hh, h0, h1, h2, h3, h4, h5, h6, h7, h8, h9, h10, h11, h12, h13, h14] <;> rfl
theorem faultS_none {nm : ByteArray} {wd ln : Int} {ds : List S70} {bd : List S119} (hprev : ∀ j, j < 16 → (cR nm wd ln ds bd j).2 = false) : faultS nm wd ln ds bd = ⟨0, 0, 0⟩ := by
  have h0 : formB nm wd ln ds bd = true := b_no (hprev 0 (by decide))
  have h1 : widthB wd = true := b_no (hprev 1 (by decide))
  have h2 : pow2B ln = true := b_no (hprev 2 (by decide))
  have h3 : ¬ 256 < ds.length := Nat.not_lt.2 (d_no (hprev 3 (by decide)))
  have h4 : firstN ds.length (twiceB ds) = none := firstD_no (hprev 4 (by decide))
  have h5 : firstN ds.length (sizeBad ds) = none := firstD_no (hprev 5 (by decide))
  have h6 : firstN ds.length (valuesBad ds) = none := firstD_no (hprev 6 (by decide))
  have h7 : firstN ds.length (rangeBad wd ds) = none := firstD_no (hprev 7 (by decide))
  have h8 : ¬ 4096 < wordsS ds := Int.not_lt.2 (d_no (hprev 8 (by decide)))
  have h9 : firstBad wd ds (things ds bd) 10 = none := firstS_no (hprev 9 (by decide))
  have h10 : firstBad wd ds (things ds bd) 11 = none := firstS_no (hprev 10 (by decide))
  have h11 : firstBad wd ds (things ds bd) 12 = none := firstS_no (hprev 11 (by decide))
  have h12 : firstBad wd ds (things ds bd) 13 = none := firstS_no (hprev 12 (by decide))
  have h13 : firstBad wd ds (things ds bd) 14 = none := firstS_no (hprev 13 (by decide))
  have h14 : firstBad wd ds (things ds bd) 15 = none := firstS_no (hprev 14 (by decide))
  have h15 : ¬ 65536 < sizeB bd := Nat.not_lt.2 (d_no (hprev 15 (by decide)))
  simp only [faultS, faultD, faultC, errC, Bool.true_eq_false, if_false, if_true, reduceIte, reduceCtorEq, Nat.reduceSub, h0, h1, h2, h3, h4, h5, h6, h7, h8, h9, h10, h11, h12, h13, h14, h15]
end Go.Proofs.YtfigjpehecibeaaGreat.L
end
section
namespace Go.Proofs.YtfigjpehecibeaaGreat.L
open Go.RowKit
set_option linter.unusedVariables false
set_option linter.unusedSimpArgs false
structure SameD (d d' : S70) : Prop where
  nm : d'.f1 = d.f1
  sz : d'.f2 = d.f2
  vs : d'.f3 = d.f3
  k3 : (d'.f0 = 3) ↔ (d.f0 = 3)
  ok : 1 ≤ d.f0 → d.f0 ≤ 5 → 1 ≤ d'.f0 ∧ d'.f0 ≤ 5
theorem SameD.refl (d : S70) : SameD d d := ⟨rfl, rfl, rfl, Iff.rfl, fun h1 h2 => ⟨h1, h2⟩⟩
structure SameDs (ds ds' : List S70) : Prop where
  len : ds'.length = ds.length
  rd : ∀ i : Nat, i < ds.length → SameD (rd_T70 ds (i : Int)) (rd_T70 ds' (i : Int))
theorem SameDs.all {ds ds' : List S70} (h : SameDs ds ds') (i : Nat) : SameD (rd_T70 ds (i : Int)) (rd_T70 ds' (i : Int)) := by
  rcases Nat.lt_or_ge i ds.length with hi | hi
  · exact h.rd i hi
  · have e : rd_T70 ds' (i : Int) = rd_T70 ds (i : Int) := by
      unfold rd_T70
      rw [Int.toNat_natCast, List.getD_eq_getElem?_getD, List.getD_eq_getElem?_getD, List.getElem?_eq_none hi, List.getElem?_eq_none (by rw [h.len]; exact hi)]
    rw [e]
    exact SameD.refl _
theorem SameDs.find {ds ds' : List S70} (h : SameDs ds ds') (s : ByteArray) : findB ds' s = findB ds s := by
  unfold findB
  rw [h.len]
  exact firstN_congr fun j hj => by rw [(h.all j).nm]
theorem SameD.bne {d d' : S70} (h : SameD d d') : (d'.f0 != 3) = (d.f0 != 3) := by
  by_cases c : d.f0 = 3
  · rw [h.k3.2 c, c]
  · exact (bn (fun x => c (h.k3.1 x))).trans (bn c).symm
theorem SameD.beq {d d' : S70} (h : SameD d d') : (d'.f0 == 3) = (d.f0 == 3) := by
  by_cases c : d.f0 = 3
  · rw [h.k3.2 c, c]
  · exact (bf (fun x => c (h.k3.1 x))).trans (bf c).symm
theorem SameD.dc {d d' : S70} (h : SameD d d') (hd : dcB d = true) : dcB d' = true := by
  unfold dcB at hd ⊢
  simp only [Bool.and_eq_true, decide_eq_true_eq] at hd
  obtain ⟨⟨⟨⟨h1, h2⟩, h3⟩, h4⟩, h5⟩ := hd
  obtain ⟨g1, g2⟩ := h.ok h1 h2
  rw [decide_eq_true g1, decide_eq_true g2, h.nm, h3, h.sz, decide_eq_true h4, h.vs]
  by_cases c : d.f0 = 3
  · rw [if_pos c] at h5
    rw [if_pos (h.k3.2 c), h5]; rfl
  · rw [if_neg c] at h5
    rw [if_neg (fun x => c (h.k3.1 x)), h5]; rfl
theorem SameD.kind {d d' : S70} (h : SameD d d') (t : Th) : kindD d' t = kindD d t := by
  cases t <;> simp only [kindD, h.sz, h.bne]
theorem rd44_all {p : S70 → Bool} {l : List S70} (h : ∀ i : Nat, i < l.length → p (rd_T70 l (i : Int)) = true) : l.all p = true := by
  rw [List.all_eq_true]
  intro y hy
  obtain ⟨j, hj, rfl⟩ := List.getElem_of_mem hy
  have := h j hj
  unfold rd_T70 at this
  rwa [Int.toNat_natCast, List.getD_eq_getElem?_getD, List.getElem?_eq_getElem hj] at this
theorem SameDs.form {ds ds' : List S70} (h : SameDs ds ds') (ha : ds.all dcB = true) : ds'.all dcB = true :=
  rd44_all fun i hi => (h.all i).dc (List.all_eq_true.1 ha _ (rd44_mem (by rw [← h.len]; exact hi)))
theorem SameDs.things {ds ds' : List S70} (h : SameDs ds ds') (bd : List S119) : L.things ds' bd = L.things ds bd := by
  unfold L.things; rw [h.len]
theorem SameDs.bad {ds ds' : List S70} (h : SameDs ds ds') (wd : Int) (c : Nat) : badC wd ds' c = badC wd ds c := by
  have e11 : bad11 ds' = bad11 ds := by
    funext t
    unfold bad11
    cases useB t with
    | none => rfl
    | some s => simp only [h.find]
  have e12 : bad12 ds' = bad12 ds := by
    funext t
    unfold bad12
    cases useB t with
    | none => rfl
    | some s => simp only [kindB, h.find, (h.all _).kind]
  have e15 : bad15 ds' = bad15 ds := by
    funext t
    cases t with
    | decl i => rfl
    | stmt s d l => simp only [bad15, h.find]
    | expr e l => rfl
  unfold badC
  rw [e11, e12, e15]
theorem SameDs.cR {nm : ByteArray} {wd ln : Int} {ds ds' : List S70} {bd : List S119} (h : SameDs ds ds') {k : Nat} (hk : k < 16) (h8 : k ≠ 8) (hc : (L.cR nm wd ln ds bd k).2 = false) : (L.cR nm wd ln ds' bd k).2 = false := by
  have hcs : k = 0 ∨ k = 1 ∨ k = 2 ∨ k = 3 ∨ k = 4 ∨ k = 5 ∨ k = 6 ∨ k = 7 ∨ k = 9 ∨ k = 10 ∨ k = 11 ∨ k = 12 ∨ k = 13 ∨ k = 14 ∨ k = 15 := by omega
  have fd : ∀ f g : Nat → Bool, (∀ i, i < ds.length → g i = f i) → (firstD f ds.length).2 = false → (firstD g ds'.length).2 = false := by
    intro f g e hf
    unfold firstD at hf ⊢
    rw [h.len, firstN_congr e]
    exact hf
  have fs : ∀ c, (firstS (badC wd ds c) (L.things ds bd)).2 = false → (firstS (badC wd ds' c) (L.things ds' bd)).2 = false := by
    intro c hf
    rw [h.things, h.bad]
    exact hf
  rcases hcs with rfl | rfl | rfl | rfl | rfl | rfl | rfl | rfl | rfl | rfl | rfl | rfl | rfl | rfl | rfl
  · simp only [L.cR] at hc ⊢
    have hf := b_no hc
    unfold formB at hf ⊢
    simp only [Bool.and_eq_true] at hf
    obtain ⟨⟨⟨a1, a2⟩, a3⟩, a4, a5⟩ := hf
    rw [a1, a2, a3, h.form a4, a5]; rfl
  · exact hc
  · exact hc
  · simp only [L.cR] at hc ⊢
    rw [h.len]
    exact hc
  · refine fd (twiceB ds) (twiceB ds') (fun i hi => ?_) hc
    unfold twiceB
    rw [firstN_congr (f := fun j : Nat => eqS (rd_T70 ds' (j : Int)).f1 (rd_T70 ds' (i : Int)).f1) (g := fun j : Nat => eqS (rd_T70 ds (j : Int)).f1 (rd_T70 ds (i : Int)).f1) fun j hj => by rw [(h.all j).nm, (h.all i).nm]]
  · exact fd (sizeBad ds) (sizeBad ds') (fun i hi => by unfold sizeBad; rw [(h.all i).sz]) hc
  · exact fd (valuesBad ds) (valuesBad ds') (fun i hi => by unfold valuesBad; rw [(h.all i).sz, (h.all i).vs, (h.all i).beq]) hc
  · exact fd (rangeBad wd ds) (rangeBad wd ds') (fun i hi => by unfold rangeBad; rw [(h.all i).vs]) hc
  · exact fs 10 hc
  · exact fs 11 hc
  · exact fs 12 hc
  · exact fs 13 hc
  · exact fs 14 hc
  · exact fs 15 hc
  · exact hc
theorem right_all {nm : ByteArray} {wd ln : Int} {ds : List S70} {bd : List S119} (h : (faultS nm wd ln ds bd).e = 0) : ∀ k, k < 16 → (cR nm wd ln ds bd k).2 = false := by
  rcases firstN_cases 16 (fun k => (cR nm wd ln ds bd k).2) with ⟨_, h2⟩ | ⟨i, h0, h1, h2, h3⟩
  · exact h2
  · rw [faultS_at h0 h3 h2] at h
    exfalso
    revert h
    have hcs : i = 0 ∨ i = 1 ∨ i = 2 ∨ i = 3 ∨ i = 4 ∨ i = 5 ∨ i = 6 ∨ i = 7 ∨ i = 8 ∨ i = 9 ∨ i = 10 ∨ i = 11 ∨ i = 12 ∨ i = 13 ∨ i = 14 ∨ i = 15 := by omega
    rcases hcs with rfl | rfl | rfl | rfl | rfl | rfl | rfl | rfl | rfl | rfl | rfl | rfl | rfl | rfl | rfl | rfl <;> intro h <;> cases h
end Go.Proofs.YtfigjpehecibeaaGreat.L
end
section
namespace Go.Proofs.YtfigjpehecibeaaGreat.L
open Go.RowKit Go.Proofs.YtfigjpehecibeaaGreatW.PrintWords Go.Proofs.YtfigjpehecibeaaGreatW.PrintLast Go.Proofs.YtfigjpehecibeaaGreatW.PrintMore Go.Proofs.YtfigjpehecibeaaGreat.Gr
set_option linter.unusedVariables false
set_option linter.unusedSimpArgs false
attribute [local go_sem] G.cell
theorem run_store_fn (P : Program) (w : World) (a : Addr) (m : Mode) (fn : Fn) (x y : Array Value) : (store a (.func fn x y) m).run P w = stored P w a (.func fn x y) m := run_store P w a _ m rfl
attribute [local go_sem] run_store_fn
def BoxAt (b : Nat) (W : World) : Prop := b + 17 ≤ W.heap.size ∧ ∀ i, i < 17 → W.heap[b + i]? = (clL b)[i]?
theorem BoxAt.below {b : Nat} {W W' : World} (h : BoxAt b W) (hb : Below W.heap.size W W') : BoxAt b W' :=
  ⟨Nat.le_trans h.1 hb.size, fun i hi => (hb.block (b + i) (by have := h.1; omega)).trans (h.2 i hi)⟩
theorem run_enter {f : FuncId} {fn : Func} {c : Code} (hf : Tryz.prog.funcs[f]? = some fn) (hname : (fn.name == "runtime.NumGoroutine") = false) (hb : fn.body = some c) (args : Array Value) (w : World) : (callFunc f args).run Tryz.prog w = .ok (.enter f args) w := by
  have h1 : fn.name ≠ "runtime.NumGoroutine" := by simpa using hname
  simp [callFunc, hf, h1, hb]
theorem enter87 (args : Array Value) (w : World) : (callFunc 246 args).run Tryz.prog w = .ok (.enter 246 args) w := run_enter Tryz.func246 (by kernel_rfl) rfl args w
theorem enter91 (args : Array Value) (w : World) : (callFunc 247 args).run Tryz.prog w = .ok (.enter 247 args) w := run_enter Tryz.func247 (by kernel_rfl) rfl args w
theorem enter93 (args : Array Value) (w : World) : (callFunc 249 args).run Tryz.prog w = .ok (.enter 249 args) w := run_enter Tryz.func249 (by kernel_rfl) rfl args w
theorem cF_cases {k : Nat} (hk : k < 16) : cF k = 246 ∨ cF k = 247 ∨ cF k = 249 := by
  have hcs : k = 0 ∨ k = 1 ∨ k = 2 ∨ k = 3 ∨ k = 4 ∨ k = 5 ∨ k = 6 ∨ k = 7 ∨ k = 8 ∨ k = 9 ∨ k = 10 ∨ k = 11 ∨ k = 12 ∨ k = 13 ∨ k = 14 ∨ k = 15 := by omega
  rcases hcs with rfl | rfl | rfl | rfl | rfl | rfl | rfl | rfl | rfl | rfl | rfl | rfl | rfl | rfl | rfl | rfl <;> decide
theorem enterF {k : Nat} (hk : k < 16) (args : Array Value) (w : World) : (callFunc (cF k) args).run Tryz.prog w = .ok (.enter (cF k) args) w := by
  rcases cF_cases hk with h | h | h <;> rw [h]
  · exact enter87 args w
  · exact enter91 args w
  · exact enter93 args w
def RowAt (b : Nat) (adr : Addr) (W : World) : Prop := adr = ⟨b + 16, 0, none⟩ ∧ BoxAt b W
theorem RowAt.below {b : Nat} {adr : Addr} {W W' : World} (h : RowAt b adr W) (hb : Below W.heap.size W W') : RowAt b adr W' := ⟨h.1, h.2.below hb⟩
theorem RowAt.at {b : Nat} {adr : Addr} {W : World} (h : RowAt b adr W) {k : Nat} (hk : k < 16) : W.cell? (adr.add (k * 2)) = some (.int .i64 (cE k)) ∧ W.cell? ⟨(adr.add (k * 2)).block, (adr.add (k * 2)).off + 1, none⟩ = some (.func (.func (cF k)) #[] #[.pointer (some ⟨b + k, 0, none⟩)]) := by
  obtain ⟨rfl, hb⟩ := h
  have q := hb.2 16 (by decide)
  have hcs : k = 0 ∨ k = 1 ∨ k = 2 ∨ k = 3 ∨ k = 4 ∨ k = 5 ∨ k = 6 ∨ k = 7 ∨ k = 8 ∨ k = 9 ∨ k = 10 ∨ k = 11 ∨ k = 12 ∨ k = 13 ∨ k = 14 ∨ k = 15 := by omega
  rcases hcs with rfl | rfl | rfl | rfl | rfl | rfl | rfl | rfl | rfl | rfl | rfl | rfl | rfl | rfl | rfl | rfl <;> exact ⟨(blk_cell q _).trans rfl, (blk_cell q _).trans rfl⟩
theorem clauses_v {w : World} (g : G w) : Calls Tryz.prog 128 #[] g.W fun e w' => ∃ (b : Nat) (adr : Addr) (g' : G w), e = .returned (.slice (some adr) 16 16) ∧ w' = g'.W ∧ RowAt b adr g'.W := by
  refine (clauses_calls g.W).mono ?_
  rintro _ _ ⟨rfl, rfl⟩
  have hb := below_allocs (clL g.W.heap.size) g.W
  refine ⟨g.W.heap.size, ⟨g.W.heap.size + 16, 0, none⟩, ⟨_, g.below.trans (hb.mono g.below.size)⟩, rfl, rfl, rfl, ?_, fun i hi => heap_allocs _ _ i (by simpa [clL] using hi)⟩
  have q := heap_allocs (clL g.W.heap.size) g.W 16 (by simp [clL])
  have := blk_lt (q.trans (show (clL g.W.heap.size)[16]? = some _ from rfl))
  show g.W.heap.size + 17 ≤ ((clL g.W.heap.size).foldl World.alloc g.W).heap.size
  omega
set_option maxHeartbeats 1000000 in
set_option maxRecDepth 100000 in
theorem fault_calls (nm : ByteArray) (wd ln : Int) (ds : List S70) (bd : List S119) (A3 : Option Addr) (c3 : Nat) (A4 : Option Addr) (c4 : Nat) (W : World) (hp : ProgAt W ds bd A3 c3 A4 c4) (hg : PGood nm wd ln ds bd) (r : Ans) (hr : r = faultS nm wd ln ds bd) :
    Calls Tryz.prog 81 #[.agg #[.string nm, .int .i64 wd, .int .i64 ln, .slice A3 ds.length c3, .slice A4 bd.length c4]] W fun e w' => e = .returned (.tuple #[.int .i64 r.c, .int .i64 r.at', .int .i64 r.e]) ∧ Below W.heap.size W w' := by
  have gout : ∀ {o : Obj} (g : G (W.alloc o)), Below W.heap.size W g.W := fun g => ((Below.refl _ _).alloc (Nat.le_refl _) _).trans (g.below.mono (by simp))
  have PAt := Aside0.mk hp
  have HR := Aside0.mk hr
  have HG := Aside0.mk hg
  clear hp hr hg
  go_enter Tryz.func81, Tryz.ntmps81
  go_upto_region 1 with (fail)
  refine wp_grown0 ?_
  intro gg
  have goutW : ∀ (g : G (gw0 gg)), Below W.heap.size W g.W := fun g => gout g
  go_wp2_with fail
  refine (clauses_v gg).mono ?_
  rintro _ _ ⟨b, adr, gg, rfl, rfl, hrow⟩
  have HB := Aside0.mk hrow
  clear hrow
  go_wp2_with fail
  go_loopw [11] (fun i X => ∃ (k : Nat) (g : G (gw0 gg)), i = .int .i64 k ∧ X = g.W ∧ k ≤ 16 ∧ Aside0 (RowAt b adr g.W ∧ ∀ j, j < k → (cR nm wd ln ds bd j).2 = false)) (fun i _ => 16 - (intOf i).toNat)
  case atStart => exact ⟨0, gg, rfl, rfl, Nat.zero_le _, ⟨HB.out, fun j hj => absurd hj (Nat.not_lt_zero _)⟩⟩
  case round =>
    obtain ⟨k, gx, rfl, rfl, hk, HK⟩ := hrel
    by_cases hlt : k < 16
    · have hk1 : (k : Int) < 16 := by omega
      obtain ⟨fn, hfn⟩ : ∃ fn, fn = cF k := ⟨_, rfl⟩
      obtain ⟨er, her⟩ : ∃ er, er = cE k := ⟨_, rfl⟩
      obtain ⟨q0, q1⟩ := HK.out.1.at hlt
      have hent := enterF hlt
      rw [← hfn] at q1 hent
      rw [← her] at q0
      have HF := Aside0.mk (And.intro hfn her)
      clear hfn her
      go_upto_region 4 with (fail)
      refine wp_grown0 ?_
      intro g2
      have goutX : ∀ (g : G (gw0 g2)), Below gx.W.heap.size gx.W g.W := fun g => ((Below.refl _ _).alloc (Nat.le_refl _) _).trans (g.below.mono (by simp [gw0]))
      have KB : ∀ g : G (gw0 g2), g.W.heap[W.heap.size]? = some (.cells #[.string nm, .int .i64 wd, .int .i64 ln, .slice A3 ds.length c3, .slice A4 bd.length c4] 25 (0, 0)) := fun g => blk_below (blk_below (blk_new _ _) gx.below) (goutX g)
      have z0 : ∀ g : G (gw0 g2), g.W.cell? ⟨W.heap.size, 0, none⟩ = some (.string nm) := fun g => (blk_cell (KB g) 0).trans rfl
      have z1 : ∀ g : G (gw0 g2), g.W.cell? ⟨W.heap.size, 1, none⟩ = some (.int .i64 wd) := fun g => (blk_cell (KB g) 1).trans rfl
      have z2 : ∀ g : G (gw0 g2), g.W.cell? ⟨W.heap.size, 2, none⟩ = some (.int .i64 ln) := fun g => (blk_cell (KB g) 2).trans rfl
      have z3 : ∀ g : G (gw0 g2), g.W.cell? ⟨W.heap.size, 3, none⟩ = some (.slice A3 ds.length c3) := fun g => (blk_cell (KB g) 3).trans rfl
      have z4 : ∀ g : G (gw0 g2), g.W.cell? ⟨W.heap.size, 4, none⟩ = some (.slice A4 bd.length c4) := fun g => (blk_cell (KB g) 4).trans rfl
      clear KB
      have goutY : ∀ (g : G (gw0 g2)), Below (gw0 gg).heap.size (gw0 gg) g.W := fun g => (gx.below.alloc gx.below.size _).trans (g.below.mono (Nat.le_trans gx.below.size (by simp [gw0])))
      obtain ⟨p, hp⟩ : ∃ p, p = cR nm wd ln ds bd k := ⟨_, rfl⟩
      have C := clause_calls nm wd ln ds bd A3 c3 A4 c4 b g2.W (PAt.out.below ((goutW gx).trans ((goutX g2).mono (goutW gx).size))) HG.out (fun i hi => ((HK.out.1.below (goutX g2)).2.2 i (by omega))) k hlt HK.out.2
      rw [← HF.out.1, ← hp] at C
      have HC := Aside0.mk C
      have HP := Aside0.mk hp
      clear C hp
      go_wp2_with fail
      refine (call_of (g := g2) HC.out).mono ?_
      rintro _ _ ⟨rfl, g2, rfl⟩
      rcases bcases p.2 with hb | hb
      · have HBB := Aside0.mk hb
        go_wp2_with fail
        have y0 : ∀ g : G g2.W, g.W.cell? ⟨gx.W.heap.size, 0, none⟩ = some (.int .i64 er) := fun g => (blk_cell (blk_below (blk_below (blk_new _ _) g2.below) g.below) 0).trans rfl
        refine wp_region_grown (by kernel_rfl) (by kernel_rfl) ?_
        repeat go_big_quiet_step (fail)
        refine wpQuiet_nil ?_
        rintro _ ⟨gz, rfl⟩
        go_wp2_with fail
        go_ret3
        have e : r = ⟨(k : Int) + 1, p.1, er⟩ := by
          rw [HR.out, faultS_at hlt HK.out.2 (HP.out ▸ HBB.out), HF.out.2, HP.out]
        exact ⟨fault_ret e, (goutW gx).trans (((goutX g2).trans (gz.below.mono (goutX g2).size)).mono (goutW gx).size)⟩
      · have HBB := Aside0.mk hb
        go_wp2_with fail
        exact ⟨⟨k + 1, mkG (goutY g2), by go_num, rfl, by omega, ⟨HK.out.1.below (goutX g2), fun j hj => (Decidable.em (j = k)).elim (fun h => h ▸ HP.out ▸ HBB.out) (fun h => HK.out.2 j (by omega))⟩⟩, by simp [intOf]; omega⟩
    · have hk1 : ¬ (k : Int) < 16 := by omega
      go_wp2_with fail
      go_ret3
      have e : r = ⟨0, 0, 0⟩ := by rw [HR.out, faultS_none fun j hj => HK.out.2 j (by omega)]
      exact ⟨fault_ret e, goutW _⟩
end Go.Proofs.YtfigjpehecibeaaGreat.L
end
section
namespace Go.Proofs.YtfigjpehecibeaaGreat.L
open Go.RowKit Go.Proofs.YtfigjpehecibeaaGreatW.PrintWords Go.Proofs.YtfigjpehecibeaaGreatW.PrintLast Go.Proofs.YtfigjpehecibeaaGreatW.PrintMore Go.Proofs.YtfigjpehecibeaaGreat.Gr
set_option linter.unusedVariables false
set_option linter.unusedSimpArgs false
attribute [local go_sem] G.cell
set_option maxHeartbeats 1000000 in
set_option maxRecDepth 100000 in
theorem check_calls (nm : ByteArray) (wd ln : Int) (ds : List S70) (bd : List S119) (A3 : Option Addr) (c3 : Nat) (A4 : Option Addr) (c4 : Nat) (w : World) (hp : ProgAt w ds bd A3 c3 A4 c4) (hg : PGood nm wd ln ds bd) (r : Ans) (hr : r = faultS nm wd ln ds bd) :
    Calls Tryz.prog 60 #[.agg #[.string nm, .int .i64 wd, .int .i64 ln, .slice A3 ds.length c3, .slice A4 bd.length c4]] w fun e w' => e = .returned (.int .i64 r.e) ∧ Below w.heap.size w w' := by
  have gout : ∀ {o : Obj} (g : G (w.alloc o)), Below w.heap.size w g.W := fun g => ((Below.refl _ _).alloc (Nat.le_refl _) _).trans (g.below.mono (by simp))
  have PAt := Aside0.mk hp
  have HR := Aside0.mk hr
  have HG := Aside0.mk hg
  clear hp hr hg
  go_enter Tryz.func60, Tryz.ntmps60
  go_upto_region 1 with (fail)
  refine wp_grown0 ?_
  intro gg
  go_wp2_with fail
  refine (call_of (g := gg) (fault_calls nm wd ln ds bd A3 c3 A4 c4 gg.W (PAt.out.below (gout gg)) HG.out r HR.out)).mono ?_
  rintro _ _ ⟨rfl, gg, rfl⟩
  go_wp2_with fail
  go_ret
  exact ⟨rfl, gout _⟩
end Go.Proofs.YtfigjpehecibeaaGreat.L
end
section
namespace Go.Proofs.YtfigjpehecibeaaGreat.L
open Go.RowKit Go.Proofs.YtfigjpehecibeaaGreatW.PrintWords
set_option linter.unusedVariables false
set_option linter.unusedSimpArgs false
theorem right_decls {nm : ByteArray} {wd ln : Int} {ds : List S70} {bd : List S119} (h : (faultS nm wd ln ds bd).e = 0) : ∀ i : Nat, i < ds.length → 1 ≤ (rd_T70 ds (i : Int)).f0 ∧ ((rd_T70 ds (i : Int)).f2 = 0 ∨ pow2B (rd_T70 ds (i : Int)).f2 = true) := by
  intro i hi
  have hr := right_all h
  refine ⟨?_, ?_⟩
  · have hform : formB nm wd ln ds bd = true := b_no (hr 0 (by decide))
    unfold formB at hform
    simp only [Bool.and_eq_true] at hform
    have := List.all_eq_true.1 hform.2.1 _ (rd44_mem hi)
    unfold dcB at this
    simp only [Bool.and_eq_true, decide_eq_true_eq] at this
    exact this.1.1.1.1
  · have h6 := firstN_all (firstD_no (hr 5 (by decide))) i hi
    unfold sizeBad at h6
    simp only [Bool.and_eq_false_iff, bne_eq_false_iff_eq, Bool.not_eq_false'] at h6
    exact h6
end Go.Proofs.YtfigjpehecibeaaGreat.L
end
section
namespace Go.Proofs.YtfigjpehecibeaaGreat.L
open Go.RowKit Go.Proofs.YtfigjpehecibeaaGreatW.PrintWords Go.Proofs.YtfigjpehecibeaaGreatW.PrintLast Go.Proofs.YtfigjpehecibeaaGreatW.PrintMore Go.Proofs.YtfigjpehecibeaaGreat.Gr
set_option linter.unusedVariables false
set_option linter.unusedSimpArgs false
attribute [local go_sem] G.cell
def NumAt (W : World) (b : Nat) : Prop := ∃ n : Int, W.heap[b]? = some (.cells #[.int .i64 n] 3 (0, 0))
theorem Gw.refl {Wb W : World} {b : Nat} (h : Below Wb.heap.size Wb W) : Gw Wb W W b := ⟨h, ⟨rfl, rfl, rfl, Nat.le_refl _, fun _ _ _ => rfl⟩⟩
theorem Gw.alloc {Wb W : World} {b : Nat} (h : Below Wb.heap.size Wb W) (o : Obj) : Gw Wb W (W.alloc o) b := ⟨h.alloc h.size o, ⟨rfl, rfl, rfl, by simp, fun i hi _ => Below.heap_alloc W o i hi⟩⟩
theorem Gw.put {Wb W W1 : World} {b : Nat} (h : Gw Wb W W1 b) (hb : Wb.heap.size ≤ b) (j : Nat) (u : Value) : Gw Wb W (W1.setCell ⟨b, j, none⟩ u) b :=
  h.trans ⟨h.below.setCell (p := ⟨b, j, none⟩) hb u, ⟨rfl, rfl, rfl, by simp [World.setCell], fun i hi hne => Below.heap_setCell _ _ _ _ (fun e => hne (by rw [e]))⟩⟩
theorem Gw.blk {Wb W W1 : World} {b i : Nat} {o : Obj} (h : Gw Wb W W1 b) (hi : W.heap[i]? = some o) (hne : i ≠ b) : W1.heap[i]? = some o := (h.grown.block i (blk_lt hi) (fun e => hne (by injection e))).trans hi
def PartsC (x : S116) : Prop := ∀ (Wb W : World) (b : Nat) (A : Option Addr) (c : Nat), Below Wb.heap.size Wb W → Wb.heap.size ≤ b → NumAt W b → k116.C Wb A x.f3.length x.f3 → x.f3.length ≤ c →
  Calls Tryz.prog 151 #[.agg #[.int .i64 x.f0, .int .u64 x.f1, .string x.f2, .slice A x.f3.length c], .pointer (some ⟨b, 0, none⟩)] W fun e W' => e = .returned (.tuple #[]) ∧ NumAt W' b ∧ Gw Wb W W' b
set_option maxHeartbeats 1000000 in
set_option maxRecDepth 100000 in
theorem parts_walk (x : S116) (ih : ∀ y ∈ x.f3, PartsC y) : PartsC x := by
  intro Wb W b A c hB hb hn hc hl
  have IH := Aside0.mk ih
  have HC := Aside0.mk hc
  have HB := Aside0.mk hB
  have HBB := Aside0.mk hb
  have hlm := hc.2.1
  obtain ⟨n, hn⟩ := hn
  have hlt := blk_lt hn
  have HN := Aside0.mk hn
  have z0 : ∀ o : Obj, (W.alloc o).cell? ⟨b, 0, none⟩ = some (.int .i64 n) := fun o => (blk_cell (blk_alloc hn o) 0).trans rfl
  have y0 : ∀ o : Obj, (W.alloc o).frozen? ⟨b, 0, none⟩ = false := fun o => blk_frozen (blk_alloc hn o) 0
  clear ih hc hB hb hn
  obtain ⟨x0, x1, x2, x3⟩ := x
  simp only at *
  go_enter Tryz.func151, Tryz.ntmps151
  go_upto_region 2 with (fail)
  obtain ⟨X, hX⟩ : ∃ X, X = (W.setCell ⟨b, 0, none⟩ (.int .i64 (wrap64 (n + 1)))).alloc (.cells #[.int .i64 x0, .int .u64 x1, .string x2, .slice A x3.length c] 116) := ⟨_, rfl⟩
  rw [← hX]
  have KX := Aside0.mk (show NumAt X b ∧ Gw Wb W X b ∧ X.heap[W.heap.size]? = some (.cells #[.int .i64 x0, .int .u64 x1, .string x2, .slice A x3.length c] 116 (0, 0)) from by
    rw [hX]
    exact ⟨⟨_, blk_alloc (blk_put HN.out 0 _ rfl) _⟩, ((Gw.refl HB.out).put HBB.out 0 _).trans (Gw.alloc ((Gw.refl HB.out).put HBB.out 0 _).below _), by simpa [World.setCell] using blk_new (W.setCell ⟨b, 0, none⟩ (.int .i64 (wrap64 (n + 1)))) (.cells #[.int .i64 x0, .int .u64 x1, .string x2, .slice A x3.length c] 116)⟩)
  clear hX z0 y0
  have HLT := Aside0.mk hlt
  clear hlt
  go_wp2_with fail
  go_loopw [4] (fun i W1 => ∃ k : Nat, i = .int .i64 k ∧ k ≤ x3.length ∧ Aside0 (NumAt W1 b ∧ Gw Wb X W1 b)) (fun i _ => x3.length - (intOf i).toNat)
  case atStart => exact ⟨0, rfl, Nat.zero_le _, ⟨KX.out.1, Gw.refl KX.out.2.1.below⟩⟩
  case round =>
    obtain ⟨k, rfl, hk, HREL⟩ := hrel
    have hbx : wr.cell? ⟨W.heap.size, 3, none⟩ = some (.slice A x3.length c) := (blk_cell (HREL.out.2.blk KX.out.2.2 (by have := HLT.out; omega)) 3).trans rfl
    by_cases hlt : k < x3.length
    · have hi1 : (k : Int) < (x3.length : Int) := by omega
      obtain ⟨m, hm⟩ := HREL.out.1
      have hz : wr.cell? ⟨b, 0, none⟩ = some (.int .i64 m) := (blk_cell hm 0).trans rfl
      clear hm
      by_cases h1 : m ≤ 10000
      · obtain ⟨ad, A3, c3, e1, q0, q1, q2, q3, l3, g3⟩ := at_T116 HC.out (k : Int) (Int.natCast_nonneg _) (by omega)
        cases e1
        rw [Int.toNat_natCast] at q0 q1 q2 q3
        replace q0 := held_in HREL.out.2.below q0
        replace q1 := held_in HREL.out.2.below q1
        replace q2 := held_in HREL.out.2.below q2
        replace q3 := held_in HREL.out.2.below q3
        have K := Aside0.mk (And.intro l3 g3)
        clear l3 g3
        have MEM := Aside0.mk (rd75_mem hlt)
        go_wp2_with fail
        refine (IH.out _ MEM.out Wb wr b A3 c3 HREL.out.2.below HBB.out HREL.out.1 K.out.2 K.out.1).mono ?_
        rintro _ W2 ⟨rfl, hn2, hg2⟩
        have H2 := Aside0.mk (And.intro hn2 hg2)
        clear hn2 hg2
        go_wp2_with fail
        exact ⟨⟨k + 1, by go_num, by omega, ⟨H2.out.1, HREL.out.2.trans H2.out.2⟩⟩, by simp [intOf]; omega⟩
      · go_wp2_with fail
        first | go_end0 | skip
        exact ⟨rfl, HREL.out.1, KX.out.2.1.trans HREL.out.2⟩
    · go_wp2_with fail
      first | go_end0 | skip
      exact ⟨rfl, HREL.out.1, KX.out.2.1.trans HREL.out.2⟩
theorem lparts_calls : ∀ (n : Nat) (x : S116), SizeOf.sizeOf x ≤ n → PartsC x := by
  intro n
  induction n with
  | zero => intro x h; obtain ⟨a, b, s, l⟩ := x; simp at h
  | succ n ih => exact fun x h => parts_walk x fun y hy => ih y (rd75_size rfl hy h)
theorem body_size {x : S119} {l : List S119} {n : Nat} (hx : x ∈ l) (h : SizeOf.sizeOf l ≤ n + 1) : SizeOf.sizeOf x.f6 ≤ n ∧ SizeOf.sizeOf x.f7 ≤ n := by
  have := List.sizeOf_lt_of_mem hx
  obtain ⟨k, s, e, f, lo, hi, th, el⟩ := x
  simp at this ⊢
  omega
def CountC (l : List S119) : Prop := ∀ (Wb W : World) (b : Nat) (A : Option Addr) (c : Nat), Below Wb.heap.size Wb W → Wb.heap.size ≤ b → NumAt W b → k119.C Wb A l.length l → l.length ≤ c →
  Calls Tryz.prog 111 #[.slice A l.length c, .pointer (some ⟨b, 0, none⟩)] W fun e W' => (∃ n : Int, e = .returned (.int .i64 n)) ∧ NumAt W' b ∧ Gw Wb W W' b
set_option maxHeartbeats 2000000 in
set_option maxRecDepth 100000 in
theorem count_walk (l : List S119) (ih : ∀ x ∈ l, CountC x.f6 ∧ CountC x.f7) : CountC l := by
  intro Wb W b A c hB hb hn hc hl
  have IH := Aside0.mk ih
  have HC := Aside0.mk hc
  have HB := Aside0.mk hB
  have HBB := Aside0.mk hb
  have HN := Aside0.mk hn
  have hlm := hc.2.1
  clear ih hc hB hb hn
  go_enter Tryz.func111, Tryz.ntmps111
  go_wp2_with fail
  go_loopw [5] (fun i W1 => ∃ k : Nat, i = .int .i64 k ∧ k ≤ l.length ∧ Aside0 (NumAt W1 b ∧ Gw Wb W W1 b)) (fun i _ => l.length - (intOf i).toNat)
  case atStart => exact ⟨0, rfl, Nat.zero_le _, ⟨HN.out, Gw.refl HB.out⟩⟩
  case round =>
    obtain ⟨k, rfl, hk, HREL⟩ := hrel
    obtain ⟨m, hm⟩ := HREL.out.1
    have hz : wr.cell? ⟨b, 0, none⟩ = some (.int .i64 m) := (blk_cell hm 0).trans rfl
    by_cases hlt : k < l.length
    · have hi1 : (k : Int) < (l.length : Int) := by omega
      by_cases h1 : m ≤ 10000
      · obtain ⟨ad, A5, c5, A9, c9, A12, c12, A13, c13, e1, q0, q1, q2, q3, q4, q5, q6, q7, q8, q9, q10, q11, q12, q13, l5, g5, l9, g9, l12, g12, l13, g13⟩ := at_T119 HC.out (k : Int) (Int.natCast_nonneg _) (by omega)
        cases e1
        rw [Int.toNat_natCast] at q2 q3 q4 q5 q6 q7 q8 q9 q12 q13
        clear q0 q1 q10 q11
        have Q := Aside0.mk (And.intro q2 (And.intro q3 (And.intro q4 (And.intro q5 (And.intro q6 (And.intro q7 (And.intro q8 (And.intro q9 (And.intro q12 q13)))))))))
        clear q2 q3 q4 q5 q6 q7 q8 q9 q12 q13
        have K := Aside0.mk (And.intro l5 (And.intro g5 (And.intro l9 (And.intro g9 (And.intro l12 (And.intro g12 (And.intro l13 g13)))))))
        clear l5 g5 l9 g9 l12 g12 l13 g13
        have IH1 := Aside0.mk (IH.out _ (rd77_mem hlt))
        generalize rd_T119 l (k : Int) = y at *
        have y0 := blk_frozen hm 0
        have KX := Aside0.mk (show NumAt (wr.setCell ⟨b, 0, none⟩ (.int .i64 (wrap64 (m + 1)))) b ∧ Gw Wb W (wr.setCell ⟨b, 0, none⟩ (.int .i64 (wrap64 (m + 1)))) b from ⟨⟨_, blk_put hm 0 _ rfl⟩, HREL.out.2.put HBB.out 0 _⟩)
        clear hm
        go_upto_region 5 with (fail)
        generalize wr.setCell ⟨b, 0, none⟩ (.int .i64 (wrap64 (m + 1))) = X at *
        clear hz y0
        have q2 := held_in KX.out.2.below Q.out.1
        have q3 := held_in KX.out.2.below Q.out.2.1
        have q4 := held_in KX.out.2.below Q.out.2.2.1
        have q5 := held_in KX.out.2.below Q.out.2.2.2.1
        go_wp2_with fail
        refine (lparts_calls _ y.f2 (Nat.le_refl _) Wb X b A5 c5 KX.out.2.below HBB.out KX.out.1 K.out.2.1 K.out.1).mono ?_
        rintro _ X5 ⟨rfl, hn2, hg2⟩
        have H5 := Aside0.mk (And.intro hn2 (KX.out.2.trans hg2))
        clear hn2 hg2 q2 q3 q4 q5
        have q6 := held_in H5.out.2.below Q.out.2.2.2.2.1
        have q7 := held_in H5.out.2.below Q.out.2.2.2.2.2.1
        have q8 := held_in H5.out.2.below Q.out.2.2.2.2.2.2.1
        have q9 := held_in H5.out.2.below Q.out.2.2.2.2.2.2.2.1
        go_wp2_with fail
        refine (lparts_calls _ y.f3 (Nat.le_refl _) Wb X5 b A9 c9 H5.out.2.below HBB.out H5.out.1 K.out.2.2.2.1 K.out.2.2.1).mono ?_
        rintro _ X9 ⟨rfl, hn2, hg2⟩
        have H9 := Aside0.mk (And.intro hn2 (H5.out.2.trans hg2))
        clear hn2 hg2 q6 q7 q8 q9
        have q12 := held_in H9.out.2.below Q.out.2.2.2.2.2.2.2.2.1
        go_wp2_with fail
        refine (IH1.out.1 Wb X9 b A12 c12 H9.out.2.below HBB.out H9.out.1 K.out.2.2.2.2.2.1 K.out.2.2.2.2.1).mono ?_
        rintro _ X12 ⟨⟨_, rfl⟩, hn2, hg2⟩
        have H12 := Aside0.mk (And.intro hn2 (H9.out.2.trans hg2))
        clear hn2 hg2 q12
        have q13 := held_in H12.out.2.below Q.out.2.2.2.2.2.2.2.2.2
        go_wp2_with fail
        refine (IH1.out.2 Wb X12 b A13 c13 H12.out.2.below HBB.out H12.out.1 K.out.2.2.2.2.2.2.2 K.out.2.2.2.2.2.2.1).mono ?_
        rintro _ X13 ⟨⟨_, rfl⟩, hn2, hg2⟩
        have H13 := Aside0.mk (And.intro hn2 (H12.out.2.trans hg2))
        clear hn2 hg2 q13
        go_wp2_with fail
        exact ⟨⟨k + 1, by go_num, by omega, ⟨H13.out.1, H13.out.2⟩⟩, by simp [intOf]; omega⟩
      · clear hm
        go_wp2_with fail
        go_ret
        exact ⟨⟨_, rfl⟩, HREL.out.1, HREL.out.2⟩
    · clear hm
      go_wp2_with fail
      go_ret
      exact ⟨⟨_, rfl⟩, HREL.out.1, HREL.out.2⟩
theorem count_calls : ∀ (n : Nat) (l : List S119), SizeOf.sizeOf l ≤ n → CountC l := by
  intro n
  induction n with
  | zero => intro l h; cases l <;> simp at h
  | succ n ih => exact fun l h => count_walk l fun x hx => ⟨ih _ (body_size hx h).1, ih _ (body_size hx h).2⟩
end Go.Proofs.YtfigjpehecibeaaGreat.L
end
