/- Closed forms of the small functions, and contracts in them. -/
import Derived.Test.YtnacekhfebjdfaaLa
import Derived.Test.YtnacekhfebjdfaaGr
import Derived.Lib.Bytes
namespace Go.Proofs.Ytnacekhfebjdfaa.L
open Go.RowKit Go.Proofs.YtnacekhfebjdfaaW.PrintWords Go.Proofs.YtnacekhfebjdfaaW.PrintLast Go.Proofs.YtnacekhfebjdfaaW.PrintMore Go.Proofs.Ytnacekhfebjdfaa.Gr
set_option linter.unusedVariables false
set_option linter.unusedSimpArgs false

/-! #### parts -/
def partsN (k : Int) : Int := if k < 1 then -1 else if k > 26 then -1 else if k = 1 then 0 else if k = 2 then 0 else if k = 3 then 1 else if k = 4 then 1 else if k = 5 then 1 else if k = 26 then 3 else 2
theorem parts_eq (k : Int) : lang_parts.f 5 k = some (partsN k) := by
  unfold lang_parts.f partsN
  simp only [lang_parts.j0, lang_parts.j1, lang_parts.j2]
  repeat' split
  all_goals (first | rfl | (exfalso; simp_all; done) | (exfalso; simp_all; omega))
theorem refParts_eq (k : Int) : cadenceref15_Parts.f 5 k = some (partsN k) := by
  unfold cadenceref15_Parts.f partsN
  simp only [cadenceref15_Parts.j0]
  repeat' split
  all_goals (first | rfl | (exfalso; simp_all; done) | (exfalso; simp_all; omega))
theorem parts_calls (k : Int) (w : World) : Calls Try.prog 24 #[.int .i64 k] w fun e w' => e = .returned (.int .i64 (partsN k)) ∧ Below w.heap.size w w' := (lang_parts.calls 5 k _ w (parts_eq k)).mono fun _ _ ⟨he, hd⟩ => ⟨he, hd.below⟩
theorem refParts_calls (k : Int) (w : World) : Calls Try.prog 25 #[.int .i64 k] w fun e w' => e = .returned (.int .i64 (partsN k)) ∧ Below w.heap.size w w' := (cadenceref15_Parts.calls 5 k _ w (refParts_eq k)).mono fun _ _ ⟨he, hd⟩ => ⟨he, hd.below⟩

/-! #### names -/
def resB (s : ByteArray) : Bool := (lang_Reserved.f s).getD false
theorem Reserved_eq (s : ByteArray) : lang_Reserved.f s = some (resB s) := by
  have si : ∀ (c : Prop) [Decidable c] (b : Bool), (if c then some true else some b) = some (if c then true else b) := fun c _ b => by split <;> rfl
  have h : ∃ b, lang_Reserved.f s = some b := by
    unfold lang_Reserved.f
    simp only [si]
    exact ⟨_, rfl⟩
  obtain ⟨b, h⟩ := h
  unfold resB
  rw [h]; rfl
theorem found (s : ByteArray) (l : List ByteArray) (hl : l.length ≤ 100) : ∀ (d i k : Nat), i + d = l.length → d < k →
    cadenceref15_Reserved.l0 k s l (i : Int) = some ((l.drop i).any fun x => decide (s.toList = x.toList)) := by
  intro d
  induction d with
  | zero =>
    intro i k h hk
    obtain ⟨k, rfl⟩ : ∃ a, k = a + 1 := ⟨k - 1, by omega⟩
    rw [cadenceref15_Reserved.l0, if_neg (by omega), List.drop_eq_nil_of_le (by omega)]; rfl
  | succ d ih =>
    intro i k h hk
    obtain ⟨k, rfl⟩ : ∃ a, k = a + 1 := ⟨k - 1, by omega⟩
    have hi : i < l.length := by omega
    have e : wrap64 ((i : Int) + 1) = ((i + 1 : Nat) : Int) := by unfold wrap64; omega
    have er : rdOf ByteArray.empty l (i : Int) = l[i] := by simp [rdOf, List.getD_eq_getElem?_getD, hi]
    rw [cadenceref15_Reserved.l0, if_pos (by omega), if_pos (by omega), e, ih (i + 1) k (by omega) (by omega), er, List.drop_eq_getElem_cons hi, List.any_cons]
    by_cases g : l[i].toList = s.toList
    · rw [if_pos g, decide_eq_true g.symm]; rfl
    · rw [if_neg g, decide_eq_false (fun h => g h.symm)]; rfl
theorem refReserved_eq (s : ByteArray) : cadenceref15_Reserved.f 30 s = some (resB s) := by
  rw [← Reserved_eq]
  unfold lang_Reserved.f cadenceref15_Reserved.f
  rw [show (0 : Int) = ((0 : Nat) : Int) from rfl, found s _ (by decide) 17 0 30 rfl (by decide)]
  simp only [List.drop_zero, List.any_cons, List.any_nil]
  have lay : ∀ (l : List UInt8) (k : Bool), (decide (s.toList = (⟨l.toArray⟩ : ByteArray).toList) || k) = if s.toList = l then true else k := by
    intro l k
    rw [Lib.toList_data (⟨l.toArray⟩ : ByteArray)]
    by_cases h : s.toList = l
    · rw [if_pos h, decide_eq_true h]; rfl
    · rw [if_neg h, decide_eq_false h]; rfl
  simp only [lay]
  have si : ∀ (c : Prop) [Decidable c] (b : Bool), (if c then some true else some b) = some (if c then true else b) := fun c _ b => by split <;> rfl
  simp only [si]

theorem Letter_eq (c : Int) : cadenceref01_Letter.f c = some (letB c) := by
  have h95 : (c == 95) = decide (c = 95) := by by_cases h : c = 95 <;> simp [h]
  unfold cadenceref01_Letter.f letB
  rw [h95]
  repeat' split
  all_goals (congr 1; first | (symm; apply decide_eq_true; omega) | (rw [Bool.eq_iff_iff]; simp only [decide_eq_true_eq]; omega))

theorem tail_eq (s : ByteArray) (hs : s.size ≤ 24) : ∀ (d i k : Nat), i + d = s.size → d < k → 1 ≤ i → cadenceref01_Name.l0 k s (i : Int) = some (((List.range s.size).drop i).all (okB s)) := by
  intro d
  induction d with
  | zero =>
    intro i k h hk _
    obtain ⟨k, rfl⟩ : ∃ a, k = a + 1 := ⟨k - 1, by omega⟩
    rw [cadenceref01_Name.l0, if_neg (by omega), List.drop_eq_nil_of_le (by simp; omega)]; rfl
  | succ d ih =>
    intro i k h hk hi1
    obtain ⟨k, rfl⟩ : ∃ a, k = a + 1 := ⟨k - 1, by omega⟩
    have hw : wrap64 ((i : Int) + 1) = ((i + 1 : Nat) : Int) := by unfold wrap64; omega
    rw [cadenceref01_Name.l0, if_pos (by omega), if_pos (by omega), Letter_eq, Option.bind_some, hw, ih (i + 1) k (by omega) (by omega) (by omega)]
    have hd : okB s i = (letB (bt s i) || digB (bt s i)) := by unfold okB; rw [decide_eq_true hi1]; rfl
    rw [List.drop_eq_getElem_cons (show i < (List.range s.size).length by simp; omega), List.all_cons, List.getElem_range]
    by_cases l : letB (bt s i) = true
    · rw [if_pos l, hd, l]; rfl
    · rw [if_neg l]
      have l' := Bool.eq_false_iff.2 l
      by_cases c1 : bt s i < 48
      · rw [if_pos c1, show okB s i = false from by rw [hd, l']; unfold digB; simp; omega]; rfl
      rw [if_neg c1]
      by_cases c2 : bt s i > 57
      · rw [if_pos c2, show okB s i = false from by rw [hd, l']; unfold digB; simp; omega]; rfl
      rw [if_neg c2, show okB s i = true from by rw [hd, l']; unfold digB; simp; omega]; rfl

theorem refNm_eq (s : ByteArray) : cadenceref01_Name.f 30 s = some (nmB s) := by
  unfold cadenceref01_Name.f nmB
  by_cases h1 : (s.size : Int) < 1
  · rw [if_pos h1, cadenceref01_Name.j0, if_pos rfl, decide_eq_false (show ¬ 1 ≤ s.size by omega)]; rfl
  rw [if_neg h1]
  by_cases h2 : (s.size : Int) > 24
  · rw [if_pos h2, cadenceref01_Name.j0, if_pos rfl, decide_eq_false (show ¬ s.size ≤ 24 by omega)]; simp
  rw [if_neg h2, if_pos (by omega), Letter_eq, Option.bind_some, decide_eq_true (show 1 ≤ s.size by omega), decide_eq_true (show s.size ≤ 24 by omega), cadenceref01_Name.j0]
  have h0 : okB s 0 = letB (bt s 0) := by unfold okB; simp
  by_cases l : letB (bt s 0) = true
  · rw [l, if_neg (by decide), show (1 : Int) = ((1 : Nat) : Int) from rfl, tail_eq s (by omega) (s.size - 1) 1 29 (by omega) (by omega) (by omega)]
    have e : (List.range s.size).all (okB s) = ((List.range s.size).drop 0).all (okB s) := by rw [List.drop_zero]
    rw [e, List.drop_eq_getElem_cons (show 0 < (List.range s.size).length by simp; omega), List.all_cons, List.getElem_range, h0, l]
    rfl
  · have l' := Bool.eq_false_iff.2 l
    rw [l', if_pos (by decide)]
    congr 1
    symm
    simp only [Bool.true_and, List.all_eq_false]
    exact ⟨0, List.mem_range.2 (by omega), by rw [h0, l']; decide⟩

def namedB (s : ByteArray) : Bool := nmB s && !resB s
theorem named_eq (s : ByteArray) : lang_named.f s = some (namedB s) := by
  unfold lang_named.f bits_Name.f namedB
  rw [Reserved_eq, Option.bind_some, Option.bind_some]
  by_cases h : nmB s = true
  · rw [if_pos h, h]; rfl
  · rw [if_neg h, Bool.eq_false_iff.2 h]; rfl
theorem refName_eq (s : ByteArray) : cadenceref15_Name.f 30 s = some (namedB s) := by
  unfold cadenceref15_Name.f namedB
  rw [refNm_eq, refReserved_eq, Option.bind_some, Option.bind_some]
  by_cases h : nmB s = true
  · rw [if_pos h, h]; rfl
  · rw [if_neg h, Bool.eq_false_iff.2 h]; rfl
theorem named_calls (s : ByteArray) (w : World) : Calls Try.prog 9 #[.string s] w fun e w' => e = .returned (.bool (namedB s)) ∧ Below w.heap.size w w' := lang_named.calls s _ w (named_eq s)
theorem refName_calls (s : ByteArray) (w : World) : Calls Try.prog 12 #[.string s] w fun e w' => e = .returned (.bool (namedB s)) ∧ Below w.heap.size w w' := cadenceref15_Name.calls 30 s _ w (refName_eq s)

/-! #### no expression -/
def noneB (x : S37) : Bool := x.f0 == 0 && x.f1 == 0 && x.f2.toList.isEmpty && (x.f3.length : Int) == 0
theorem none_eq (x : S37) : lang_none.f x.f0 x.f1 x.f2 x.f3 = some (noneB x) := by
  unfold lang_none.f noneB
  by_cases h0 : x.f0 = 0
  · by_cases h1 : x.f1 = 0
    · by_cases h2 : x.f2.toList = []
      · simp [h0, h1, h2]
      · have : x.f2.toList.isEmpty = false := by simpa using h2
        rw [if_pos h0, if_pos h1, if_neg h2, this]; simp
    · simp [h0, h1]
  · simp [h0]
theorem none_calls (x : S37) (A : Option Addr) (c : Nat) (w : World) (hc : k37.C w A x.f3.length x.f3) (hl : x.f3.length ≤ c) : Calls Try.prog 20 #[.agg #[.int .i64 x.f0, .int .u64 x.f1, .string x.f2, .slice A x.f3.length c]] w fun e w' => e = .returned (.bool (noneB x)) ∧ Below w.heap.size w w' := lang_none.calls x.f0 x.f1 x.f2 A c x.f3 _ w hc hl (none_eq x)
theorem refNone_calls (x : S37) (A : Option Addr) (c : Nat) (w : World) (hc : k37.C w A x.f3.length x.f3) (hl : x.f3.length ≤ c) : Calls Try.prog 23 #[.agg #[.int .i64 x.f0, .int .u64 x.f1, .string x.f2, .slice A x.f3.length c]] w fun e w' => e = .returned (.bool (noneB x)) ∧ Below w.heap.size w w' := cadenceref15_none.calls x.f0 x.f1 x.f2 A c x.f3 _ w hc hl (none_eq x)
end Go.Proofs.Ytnacekhfebjdfaa.L
