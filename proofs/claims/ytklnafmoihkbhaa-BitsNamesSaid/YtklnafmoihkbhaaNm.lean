import Derived.Test.YtklnafmoihkbhaaPBitsNamesx1
import Derived.Lib.Hide
namespace Go.Proofs.Ytklnafmoihkbhaa.Nm
open Go.RowKit Go.Proofs.YtklnafmoihkbhaaW.PrintWords Go.Proofs.YtklnafmoihkbhaaW.PrintLast Go.Proofs.YtklnafmoihkbhaaW.PrintMore
set_option linter.unusedVariables false
set_option linter.unusedSimpArgs false

def letB (c : Int) : Bool := decide (97 ≤ c ∧ c ≤ 122 ∨ 65 ≤ c ∧ c ≤ 90 ∨ c = 95)
def digB (c : Int) : Bool := decide (48 ≤ c ∧ c ≤ 57)
def okB (s : ByteArray) (i : Nat) : Bool := letB (bt s i) || (decide (1 ≤ i) && digB (bt s i))
def nmB (s : ByteArray) : Bool := decide (1 ≤ s.size) && decide (s.size ≤ 24) && (List.range s.size).all (okB s)

theorem bt_get (s : ByteArray) (pos : Nat) (h : pos < s.size) : bt s (pos : Int) = ((s[pos]'h).toNat : Int) := by simp [bt, h]
theorem width_pos (s : ByteArray) (pos : Nat) (h : pos < s.size) : 1 ≤ (Utf8.decode s pos).2 := by
  by_cases ha : (s[pos]'h).toNat < 128
  · rw [decode_ascii s pos h ha]; exact Nat.le_refl _
  · exact (decode_high s pos h (by omega)).2
/-- What a round sees: the byte itself, or a number from 128 on. -/
theorem sees (s : ByteArray) (pos : Nat) (h : pos < s.size) : (((Utf8.decode s pos).1 : Int) = bt s pos ∧ (Utf8.decode s pos).2 = 1) ∨ (128 ≤ (Utf8.decode s pos).1 ∧ 128 ≤ bt s pos) := by
  rw [bt_get s pos h]
  by_cases ha : (s[pos]'h).toNat < 128
  · rw [decode_ascii s pos h ha]; exact .inl ⟨rfl, rfl⟩
  · exact .inr ⟨(decode_high s pos h (by omega)).1, by omega⟩

theorem ret_bool {a b : Bool} (h : a = b) : Ending.returned (.bool a) = .returned (.bool b) := by rw [h]
theorem all_yes {s : ByteArray} {pos : Nat} (h : s.size ≤ pos) (hk : ∀ i, i < pos → okB s i = true) : true = (List.range s.size).all (okB s) := by
  symm
  rw [List.all_eq_true]
  exact fun i hi => hk i (by have := List.mem_range.1 hi; omega)
theorem more_ok {s : ByteArray} {pos : Nat} (hk : ∀ i, i < pos → okB s i = true) (h : okB s pos = true) : ∀ i, i < pos + 1 → okB s i = true := by
  intro i hi
  by_cases e : i = pos
  · rw [e]; exact h
  · exact hk i (by omega)
theorem all_no {s : ByteArray} {pos : Nat} (h : pos < s.size) (hn : okB s pos = false) : false = (List.range s.size).all (okB s) := by
  symm
  rw [List.all_eq_false]
  exact ⟨pos, List.mem_range.2 h, by rw [hn]; decide⟩
theorem no_ok {s : ByteArray} {pos r wd : Nat} (h : ((r : Int) = bt s pos ∧ wd = 1) ∨ (128 ≤ r ∧ 128 ≤ bt s pos)) (hl : ¬ (97 ≤ (r : Int) ∧ (r : Int) ≤ 122) ∧ ¬ (65 ≤ (r : Int) ∧ (r : Int) ≤ 90) ∧ ¬ (r : Int) = 95) (hd : pos = 0 ∨ (r : Int) < 48 ∨ 57 < (r : Int)) : okB s pos = false := by
  unfold okB letB digB
  simp only [Bool.or_eq_false_iff, Bool.and_eq_false_iff, decide_eq_false_iff_not]
  omega
theorem yes_ok {s : ByteArray} {pos r wd : Nat} (h : ((r : Int) = bt s pos ∧ wd = 1) ∨ (128 ≤ r ∧ 128 ≤ bt s pos)) (hl : (97 ≤ (r : Int) ∧ (r : Int) ≤ 122 ∨ 65 ≤ (r : Int) ∧ (r : Int) ≤ 90 ∨ (r : Int) = 95) ∨ (1 ≤ pos ∧ 48 ≤ (r : Int) ∧ (r : Int) ≤ 57)) : wd = 1 ∧ okB s pos = true := by
  refine ⟨by omega, ?_⟩
  unfold okB letB digB
  simp only [Bool.or_eq_true, Bool.and_eq_true, decide_eq_true_eq]
  omega

set_option maxHeartbeats 4000000 in
set_option maxRecDepth 1000000 in
theorem Name_long (s : ByteArray) (w : World) (h : s.size < 1 ∨ 24 < s.size) (hs : s.size ≤ 140737488351232) :
    Calls Try.prog 13 #[.string s] w fun e w' => e = .returned (.bool false) ∧ Below w.heap.size w w' := by
  rcases h with h | h
  · go_enter Try.func13, Try.ntmps13
    go_wp2
    go_ret
    exact ⟨rfl, Below.refl _ _⟩
  · have h' : ¬ s.size < 1 := by omega
    go_enter Try.func13, Try.ntmps13
    go_wp2
    go_ret
    exact ⟨rfl, Below.refl _ _⟩

set_option maxHeartbeats 4000000 in
set_option maxRecDepth 1000000 in
theorem Name_walk (s : ByteArray) (w : World) (h1 : 1 ≤ s.size) (h2 : s.size ≤ 24) :
    Calls Try.prog 13 #[.string s] w fun e w' => e = .returned (.bool ((List.range s.size).all (okB s))) ∧ Below w.heap.size w w' := by
  have n1 : ¬ s.size < 1 := by omega
  have n2 : ¬ 24 < s.size := by omega
  go_enter Try.func13, Try.ntmps13
  go_wp2
  go_loopw [3] (fun _ w' => ∃ pos : Nat, w' = w.iter s pos ∧ pos ≤ s.size ∧ Aside0 (∀ i, i < pos → okB s i = true)) (fun _ w' => s.size - w'.iterPos w.heap.size)
  case atStart => exact ⟨0, rfl, by omega, ⟨fun i hi => by omega⟩⟩
  case round =>
    obtain ⟨pos, rfl, hle, hk⟩ := hrel
    by_cases hp : pos < s.size
    · have hnx : ∀ ty, (Instr.next (.pointer (some ⟨w.heap.size, 0, none⟩)) true ty).run Try.prog (w.iter s pos) = _ := fun ty => run_next_any w s pos ty hp
      have hsee := Aside0.mk (sees s pos hp)
      have hwd := width_pos s pos hp
      generalize hr : (Utf8.decode s pos).1 = r at *
      generalize hw : (Utf8.decode s pos).2 = wd at *
      clear hr hw
      go_wp2
      all_goals clear hnx
      all_goals first
        | (go_ret
           refine ⟨?_, (Below.refl _ _).alloc (Nat.le_refl _) _⟩
           refine ret_bool (all_no hp ?_)
           refine no_ok hsee.out (r := r) (by omega) ?_
           (try simp at *); omega)
        | (have hs1 : (97 ≤ (r : Int) ∧ (r : Int) ≤ 122 ∨ 65 ≤ (r : Int) ∧ (r : Int) ≤ 90 ∨ (r : Int) = 95) ∨ (1 ≤ pos ∧ 48 ≤ (r : Int) ∧ (r : Int) ≤ 57) := by
             (try simp at *); omega
           obtain ⟨g1, g2⟩ := yes_ok hsee.out hs1
           subst g1
           refine ⟨⟨pos + 1, by first | rfl | (congr 1; omega), by omega, ⟨more_ok hk.out g2⟩⟩, ?_⟩
           simp
           omega)
    · have hnx : ∀ ty, (Instr.next (.pointer (some ⟨w.heap.size, 0, none⟩)) true ty).run Try.prog (w.iter s pos) = _ := fun ty => run_next_end w s pos ty hp
      go_wp2
      go_ret
      exact ⟨ret_bool (all_yes (by omega) hk.out), (Below.refl _ _).alloc (Nat.le_refl _) _⟩

theorem Name_calls (s : ByteArray) (w : World) (hs : s.size ≤ 140737488351232) :
    Calls Try.prog 13 #[.string s] w fun e w' => e = .returned (.bool (nmB s)) ∧ Below w.heap.size w w' := by
  by_cases h : 1 ≤ s.size ∧ s.size ≤ 24
  · have e : nmB s = (List.range s.size).all (okB s) := by unfold nmB; rw [decide_eq_true h.1, decide_eq_true h.2]; rfl
    rw [e]; exact Name_walk s w h.1 h.2
  · have e : nmB s = false := by
      unfold nmB
      by_cases h1 : 1 ≤ s.size
      · rw [decide_eq_false (show ¬ s.size ≤ 24 by omega)]; simp
      · rw [decide_eq_false h1]; simp
    rw [e]; exact Name_long s w (by omega) hs
end Go.Proofs.Ytklnafmoihkbhaa.Nm
