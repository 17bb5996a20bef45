import Derived.Test.YtklnafmoihkbhaaNm
namespace Go.Proofs.Ytklnafmoihkbhaa.Nm
open Go.RowKit Go.Proofs.Ytklnafmoihkbhaa.PBitsNames Go.Proofs.YtklnafmoihkbhaaW.PrintWords Go.Proofs.YtklnafmoihkbhaaW.PrintLast Go.Proofs.YtklnafmoihkbhaaW.PrintMore
set_option linter.unusedVariables false
set_option linter.unusedSimpArgs false

theorem Letter_eq (c : Int) : cadenceref01_Letter.f c = some (letB c) := by
  have h95 : (c == 95) = decide (c = 95) := by by_cases h : c = 95 <;> simp [h]
  unfold cadenceref01_Letter.f letB
  rw [h95]
  repeat' split
  all_goals (congr 1; first | (symm; apply decide_eq_true; omega) | (rw [Bool.eq_iff_iff]; simp only [decide_eq_true_eq]; omega))

theorem tail_eq (s : ByteArray) (hs : s.size ≤ 24) : ∀ (d i k : Nat), i + d = s.size → d < k → 1 ≤ i → cadenceref01_Name.l0 k s (i : Int) = some (((List.range s.size).drop i).all (okB s)) := by
  intro d
  induction d with
  | zero =>
    intro i k h hk _
    obtain ⟨k, rfl⟩ : ∃ a, k = a + 1 := ⟨k - 1, by omega⟩
    rw [cadenceref01_Name.l0, if_neg (by omega), List.drop_eq_nil_of_le (by simp; omega)]; rfl
  | succ d ih =>
    intro i k h hk hi1
    obtain ⟨k, rfl⟩ : ∃ a, k = a + 1 := ⟨k - 1, by omega⟩
    have hw : wrap64 ((i : Int) + 1) = ((i + 1 : Nat) : Int) := by unfold wrap64; omega
    rw [cadenceref01_Name.l0, if_pos (by omega), if_pos (by omega), Letter_eq, Option.bind_some, hw, ih (i + 1) k (by omega) (by omega) (by omega)]
    have hd : okB s i = (letB (bt s i) || digB (bt s i)) := by unfold okB; rw [decide_eq_true hi1]; rfl
    rw [List.drop_eq_getElem_cons (show i < (List.range s.size).length by simp; omega), List.all_cons, List.getElem_range]
    by_cases l : letB (bt s i) = true
    · rw [if_pos l, hd, l]; rfl
    · rw [if_neg l]
      have l' := Bool.eq_false_iff.2 l
      by_cases c1 : bt s i < 48
      · rw [if_pos c1, show okB s i = false from by rw [hd, l']; unfold digB; simp; omega]; rfl
      rw [if_neg c1]
      by_cases c2 : bt s i > 57
      · rw [if_pos c2, show okB s i = false from by rw [hd, l']; unfold digB; simp; omega]; rfl
      rw [if_neg c2, show okB s i = true from by rw [hd, l']; unfold digB; simp; omega]; rfl

theorem ref_eq (s : ByteArray) : cadenceref01_Name.f 30 s = some (nmB s) := by
  unfold cadenceref01_Name.f nmB
  by_cases h1 : (s.size : Int) < 1
  · rw [if_pos h1, cadenceref01_Name.j0, if_pos rfl, decide_eq_false (show ¬ 1 ≤ s.size by omega)]; rfl
  rw [if_neg h1]
  by_cases h2 : (s.size : Int) > 24
  · rw [if_pos h2, cadenceref01_Name.j0, if_pos rfl, decide_eq_false (show ¬ s.size ≤ 24 by omega)]; simp
  rw [if_neg h2, if_pos (by omega), Letter_eq, Option.bind_some, decide_eq_true (show 1 ≤ s.size by omega), decide_eq_true (show s.size ≤ 24 by omega), cadenceref01_Name.j0]
  have h0 : okB s 0 = letB (bt s 0) := by unfold okB; simp
  by_cases l : letB (bt s 0) = true
  · rw [l, if_neg (by decide), show (1 : Int) = ((1 : Nat) : Int) from rfl, tail_eq s (by omega) (s.size - 1) 1 29 (by omega) (by omega) (by omega)]
    have e : (List.range s.size).all (okB s) = ((List.range s.size).drop 0).all (okB s) := by rw [List.drop_zero]
    rw [e, List.drop_eq_getElem_cons (show 0 < (List.range s.size).length by simp; omega), List.all_cons, List.getElem_range, h0, l]
    rfl
  · have l' := Bool.eq_false_iff.2 l
    rw [l', if_pos (by decide)]
    congr 1
    symm
    simp only [Bool.true_and, List.all_eq_false]
    exact ⟨0, List.mem_range.2 (by omega), by rw [h0, l']; decide⟩

set_option maxHeartbeats 4000000 in
set_option maxRecDepth 100000 in
theorem law_walk (s : ByteArray) (w : World) (hs : s.size ≤ 140737488351232) :
    Calls Try.prog 3 #[.string s] w fun e w' => e = .returned (.bool true) ∧ Below w.heap.size w w' := by
  go_enter Try.func3, Try.ntmps3
  go_wp2_with fail
  refine (Name_calls s _ hs).mono ?_
  rintro e w' ⟨rfl, hb⟩
  go_wp2_with fail
  refine (cadenceref01_Name.calls 30 s (nmB s) _ (ref_eq s)).mono ?_
  rintro e w'' ⟨rfl, hb2⟩
  go_wp2
  go_ret
  exact ⟨rfl, hb.trans (hb2.below.mono hb.size)⟩
end Go.Proofs.Ytklnafmoihkbhaa.Nm
