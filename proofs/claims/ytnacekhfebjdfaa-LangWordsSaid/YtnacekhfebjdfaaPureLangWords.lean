/- Of every text the program's Reserved and the reference's say the same. No condition. -/
import Derived.Test.YtnacekhfebjdfaaPLangWordsx1
import Derived.Lib.Bytes
namespace Go.Proofs.Ytnacekhfebjdfaa.Pure
open Go.RowKit Go.Proofs.Ytnacekhfebjdfaa.PLangWords Go.Proofs.YtnacekhfebjdfaaW.PrintWords Go.Proofs.YtnacekhfebjdfaaW.PrintLast

/-- The loop through the words, from the place i on. -/
theorem found (s : ByteArray) (l : List ByteArray) (hl : l.length ≤ 100) : ∀ (d i k : Nat), i + d = l.length → d < k →
    cadenceref15_Reserved.l0 k s l (i : Int) = some ((l.drop i).any fun x => decide (s.toList = x.toList)) := by
  intro d
  induction d with
  | zero =>
    intro i k h hk
    obtain ⟨k, rfl⟩ : ∃ a, k = a + 1 := ⟨k - 1, by omega⟩
    rw [cadenceref15_Reserved.l0, if_neg (by omega), List.drop_eq_nil_of_le (by omega)]; rfl
  | succ d ih =>
    intro i k h hk
    obtain ⟨k, rfl⟩ : ∃ a, k = a + 1 := ⟨k - 1, by omega⟩
    have hi : i < l.length := by omega
    have e : wrap64 ((i : Int) + 1) = ((i + 1 : Nat) : Int) := by unfold wrap64; omega
    have er : rdOf ByteArray.empty l (i : Int) = l[i] := by simp [rdOf, List.getD_eq_getElem?_getD, hi]
    rw [cadenceref15_Reserved.l0, if_pos (by omega), if_pos (by omega), e, ih (i + 1) k (by omega) (by omega), er, List.drop_eq_getElem_cons hi, List.any_cons]
    by_cases g : l[i].toList = s.toList
    · rw [if_pos g, decide_eq_true g.symm]; rfl
    · rw [if_neg g, decide_eq_false (fun h => g h.symm)]; rfl

theorem LangWords : cadencelaw15_LangWords.Pure := by
  intro s _
  refine ⟨18, ?_⟩
  unfold cadencelaw15_LangWords.f lang_Reserved.f cadenceref15_Reserved.f
  rw [show (0 : Int) = ((0 : Nat) : Int) from rfl, found s _ (by decide) 17 0 18 rfl (by decide)]
  simp only [List.drop_zero, List.any_cons, List.any_nil]
  have lay : ∀ (l : List UInt8) (k : Bool), (decide (s.toList = (⟨l.toArray⟩ : ByteArray).toList) || k) = if s.toList = l then true else k := by
    intro l k
    rw [Lib.toList_data (⟨l.toArray⟩ : ByteArray)]
    by_cases h : s.toList = l
    · rw [if_pos h, decide_eq_true h]; rfl
    · rw [if_neg h, decide_eq_false h]; rfl
  simp only [lay]
  have si : ∀ (c : Prop) [Decidable c] (b : Bool), (if c then some true else some b) = some (if c then true else b) := fun c _ b => by split <;> rfl
  simp only [si, Option.bind_some, beq_self_eq_true]
end Go.Proofs.Ytnacekhfebjdfaa.Pure
