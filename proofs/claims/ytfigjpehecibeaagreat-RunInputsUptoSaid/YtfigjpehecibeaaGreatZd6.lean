/- Texts joined by a program of mine: Lh Li Lm. -/
import Derived.Test.YtfigjpehecibeaaGreatZd2
import Derived.Test.YtfigjpehecibeaaGreatZd4
import Derived.Test.YtfigjpehecibeaaGreatZd5
section
namespace Go.Proofs.YtfigjpehecibeaaGreat.L
open Go.RowKit Go.Proofs.YtfigjpehecibeaaGreatW.PrintWords Go.Proofs.YtfigjpehecibeaaGreatW.PrintLast Go.Proofs.YtfigjpehecibeaaGreatW.PrintMore Go.Proofs.YtfigjpehecibeaaGreat.Gr
set_option linter.unusedVariables false
set_option linter.unusedSimpArgs false
attribute [local go_sem] G.cell
def dcB (x : S70) : Bool := decide (1 ≤ x.f0) && decide (x.f0 ≤ 5) && namedB x.f1 && decide (0 ≤ x.f2) && (if x.f0 = 3 then decide (0 < x.f3.length) && decide (0 < x.f2) else x.f3.isEmpty)
theorem kinds5 (a : Int) : a < 1 ∨ (¬ a < 1 ∧ a > 5) ∨ a = 1 ∨ a = 2 ∨ a = 3 ∨ a = 4 ∨ a = 5 := by omega
set_option maxHeartbeats 1000000 in
set_option maxRecDepth 100000 in
theorem declForm_klt (a : Int) (h1 : a < 1) (b : ByteArray) (s : Int) (l : List Int) {A : Option Addr} {c : Nat} (w : World) :
    Calls Tryz.prog 120 #[.agg #[.int .i64 a, .string b, .int .i64 s, .slice A l.length c]] w fun e' w' => e' = .returned (.bool (dcB ⟨a, b, s, l⟩)) ∧ Below w.heap.size w w' := by
  have gout : ∀ {o : Obj} (g : G (w.alloc o)), Below w.heap.size w g.W := fun g => ((Below.refl _ _).alloc (Nat.le_refl _) _).trans (g.below.mono (by simp))
  have h0 : dcB ⟨a, b, s, l⟩ = false := by simp [dcB]; omega
  rw [h0]
  clear h0
  go_enter Tryz.func120, Tryz.ntmps120
  go_upto_region 1 with (fail)
  refine wp_grown ?_
  intro gg
  go_wp2_with fail
  go_ret
  exact ⟨ret_bool2 (by simp), gout _⟩
set_option maxHeartbeats 1000000 in
set_option maxRecDepth 100000 in
theorem declForm_kgt (a : Int) (h1 : ¬ a < 1) (h2 : a > 5) (b : ByteArray) (s : Int) (l : List Int) {A : Option Addr} {c : Nat} (w : World) :
    Calls Tryz.prog 120 #[.agg #[.int .i64 a, .string b, .int .i64 s, .slice A l.length c]] w fun e' w' => e' = .returned (.bool (dcB ⟨a, b, s, l⟩)) ∧ Below w.heap.size w w' := by
  have gout : ∀ {o : Obj} (g : G (w.alloc o)), Below w.heap.size w g.W := fun g => ((Below.refl _ _).alloc (Nat.le_refl _) _).trans (g.below.mono (by simp))
  have h0 : dcB ⟨a, b, s, l⟩ = false := by simp [dcB]; omega
  rw [h0]
  clear h0
  go_enter Tryz.func120, Tryz.ntmps120
  go_upto_region 1 with (fail)
  refine wp_grown ?_
  intro gg
  go_wp2_with fail
  go_ret
  exact ⟨ret_bool2 (by simp), gout _⟩
set_option maxHeartbeats 1000000 in
set_option maxRecDepth 100000 in
theorem declForm_k1 (b : ByteArray) (s : Int) (l : List Int) {A : Option Addr} {c : Nat} (w : World) :
    Calls Tryz.prog 120 #[.agg #[.int .i64 1, .string b, .int .i64 s, .slice A l.length c]] w fun e' w' => e' = .returned (.bool (dcB ⟨1, b, s, l⟩)) ∧ Below w.heap.size w w' := by
  have gout : ∀ {o : Obj} (g : G (w.alloc o)), Below w.heap.size w g.W := fun g => ((Below.refl _ _).alloc (Nat.le_refl _) _).trans (g.below.mono (by simp))
  go_enter Tryz.func120, Tryz.ntmps120
  go_upto_region 1 with (fail)
  refine wp_grown ?_
  intro gg
  go_wp2_with fail
  rcases bcases (namedB b) with h1 | h1
  all_goals
    refine (call_of (g := gg) (named_v h1 gg.W)).mono ?_
    rintro _ _ ⟨rfl, gg, rfl⟩
  · rcases Int.lt_or_le s 0 with h2 | h2
    · have h3 : ¬ 0 ≤ s := by omega
      go_wp2_with fail
      go_ret
      exact ⟨ret_bool2 (by simp [dcB, h1, h3] <;> (intros; omega)), gout _⟩
    · have h3 : ¬ s < 0 := by omega
      rcases l with _ | ⟨y, r⟩
      all_goals
        (try have h6 : ((r.length : Int) + 1 == 0) = false := by simp; omega)
        go_wp2_with fail
        go_ret
        exact ⟨ret_bool2 (by simp [dcB, h1, h2]; try omega), gout _⟩
  · go_wp2_with fail
    go_ret
    exact ⟨ret_bool2 (by simp [dcB, h1]), gout _⟩
set_option maxHeartbeats 1000000 in
set_option maxRecDepth 100000 in
theorem declForm_k2 (b : ByteArray) (s : Int) (l : List Int) {A : Option Addr} {c : Nat} (w : World) :
    Calls Tryz.prog 120 #[.agg #[.int .i64 2, .string b, .int .i64 s, .slice A l.length c]] w fun e' w' => e' = .returned (.bool (dcB ⟨2, b, s, l⟩)) ∧ Below w.heap.size w w' := by
  have gout : ∀ {o : Obj} (g : G (w.alloc o)), Below w.heap.size w g.W := fun g => ((Below.refl _ _).alloc (Nat.le_refl _) _).trans (g.below.mono (by simp))
  go_enter Tryz.func120, Tryz.ntmps120
  go_upto_region 1 with (fail)
  refine wp_grown ?_
  intro gg
  go_wp2_with fail
  rcases bcases (namedB b) with h1 | h1
  all_goals
    refine (call_of (g := gg) (named_v h1 gg.W)).mono ?_
    rintro _ _ ⟨rfl, gg, rfl⟩
  · rcases Int.lt_or_le s 0 with h2 | h2
    · have h3 : ¬ 0 ≤ s := by omega
      go_wp2_with fail
      go_ret
      exact ⟨ret_bool2 (by simp [dcB, h1, h3] <;> (intros; omega)), gout _⟩
    · have h3 : ¬ s < 0 := by omega
      rcases l with _ | ⟨y, r⟩
      all_goals
        (try have h6 : ((r.length : Int) + 1 == 0) = false := by simp; omega)
        go_wp2_with fail
        go_ret
        exact ⟨ret_bool2 (by simp [dcB, h1, h2]; try omega), gout _⟩
  · go_wp2_with fail
    go_ret
    exact ⟨ret_bool2 (by simp [dcB, h1]), gout _⟩
set_option maxHeartbeats 1000000 in
set_option maxRecDepth 100000 in
theorem declForm_k3 (b : ByteArray) (s : Int) (l : List Int) {A : Option Addr} {c : Nat} (w : World) :
    Calls Tryz.prog 120 #[.agg #[.int .i64 3, .string b, .int .i64 s, .slice A l.length c]] w fun e' w' => e' = .returned (.bool (dcB ⟨3, b, s, l⟩)) ∧ Below w.heap.size w w' := by
  have gout : ∀ {o : Obj} (g : G (w.alloc o)), Below w.heap.size w g.W := fun g => ((Below.refl _ _).alloc (Nat.le_refl _) _).trans (g.below.mono (by simp))
  go_enter Tryz.func120, Tryz.ntmps120
  go_upto_region 1 with (fail)
  refine wp_grown ?_
  intro gg
  go_wp2_with fail
  rcases bcases (namedB b) with h1 | h1
  all_goals
    refine (call_of (g := gg) (named_v h1 gg.W)).mono ?_
    rintro _ _ ⟨rfl, gg, rfl⟩
  · rcases Int.lt_or_le s 0 with h2 | h2
    · have h3 : ¬ 0 ≤ s := by omega
      go_wp2_with fail
      go_ret
      exact ⟨ret_bool2 (by simp [dcB, h1, h3] <;> (intros; omega)), gout _⟩
    · have h3 : ¬ s < 0 := by omega
      rcases Int.lt_or_le 0 s with h4 | h4
      · rcases l with _ | ⟨y, r⟩
        all_goals
          go_wp2_with fail
          go_ret
          exact ⟨ret_bool2 (by simp [dcB, h1, h2, h4]), gout _⟩
      · have h5 : ¬ 0 < s := by omega
        rcases l with _ | ⟨y, r⟩
        all_goals
          go_wp2_with fail
          go_ret
          exact ⟨ret_bool2 (by simp [dcB, h1, h2, h5]), gout _⟩
  · go_wp2_with fail
    go_ret
    exact ⟨ret_bool2 (by simp [dcB, h1]), gout _⟩
set_option maxHeartbeats 1000000 in
set_option maxRecDepth 100000 in
theorem declForm_k4 (b : ByteArray) (s : Int) (l : List Int) {A : Option Addr} {c : Nat} (w : World) :
    Calls Tryz.prog 120 #[.agg #[.int .i64 4, .string b, .int .i64 s, .slice A l.length c]] w fun e' w' => e' = .returned (.bool (dcB ⟨4, b, s, l⟩)) ∧ Below w.heap.size w w' := by
  have gout : ∀ {o : Obj} (g : G (w.alloc o)), Below w.heap.size w g.W := fun g => ((Below.refl _ _).alloc (Nat.le_refl _) _).trans (g.below.mono (by simp))
  go_enter Tryz.func120, Tryz.ntmps120
  go_upto_region 1 with (fail)
  refine wp_grown ?_
  intro gg
  go_wp2_with fail
  rcases bcases (namedB b) with h1 | h1
  all_goals
    refine (call_of (g := gg) (named_v h1 gg.W)).mono ?_
    rintro _ _ ⟨rfl, gg, rfl⟩
  · rcases Int.lt_or_le s 0 with h2 | h2
    · have h3 : ¬ 0 ≤ s := by omega
      go_wp2_with fail
      go_ret
      exact ⟨ret_bool2 (by simp [dcB, h1, h3] <;> (intros; omega)), gout _⟩
    · have h3 : ¬ s < 0 := by omega
      rcases l with _ | ⟨y, r⟩
      all_goals
        (try have h6 : ((r.length : Int) + 1 == 0) = false := by simp; omega)
        go_wp2_with fail
        go_ret
        exact ⟨ret_bool2 (by simp [dcB, h1, h2]; try omega), gout _⟩
  · go_wp2_with fail
    go_ret
    exact ⟨ret_bool2 (by simp [dcB, h1]), gout _⟩
set_option maxHeartbeats 1000000 in
set_option maxRecDepth 100000 in
theorem declForm_k5 (b : ByteArray) (s : Int) (l : List Int) {A : Option Addr} {c : Nat} (w : World) :
    Calls Tryz.prog 120 #[.agg #[.int .i64 5, .string b, .int .i64 s, .slice A l.length c]] w fun e' w' => e' = .returned (.bool (dcB ⟨5, b, s, l⟩)) ∧ Below w.heap.size w w' := by
  have gout : ∀ {o : Obj} (g : G (w.alloc o)), Below w.heap.size w g.W := fun g => ((Below.refl _ _).alloc (Nat.le_refl _) _).trans (g.below.mono (by simp))
  go_enter Tryz.func120, Tryz.ntmps120
  go_upto_region 1 with (fail)
  refine wp_grown ?_
  intro gg
  go_wp2_with fail
  rcases bcases (namedB b) with h1 | h1
  all_goals
    refine (call_of (g := gg) (named_v h1 gg.W)).mono ?_
    rintro _ _ ⟨rfl, gg, rfl⟩
  · rcases Int.lt_or_le s 0 with h2 | h2
    · have h3 : ¬ 0 ≤ s := by omega
      go_wp2_with fail
      go_ret
      exact ⟨ret_bool2 (by simp [dcB, h1, h3] <;> (intros; omega)), gout _⟩
    · have h3 : ¬ s < 0 := by omega
      rcases l with _ | ⟨y, r⟩
      all_goals
        (try have h6 : ((r.length : Int) + 1 == 0) = false := by simp; omega)
        go_wp2_with fail
        go_ret
        exact ⟨ret_bool2 (by simp [dcB, h1, h2]; try omega), gout _⟩
  · go_wp2_with fail
    go_ret
    exact ⟨ret_bool2 (by simp [dcB, h1]), gout _⟩
theorem declForm_calls (x : S70) (A : Option Addr) (c : Nat) (w : World) : Calls Tryz.prog 120 #[.agg #[.int .i64 x.f0, .string x.f1, .int .i64 x.f2, .slice A x.f3.length c]] w fun e' w' => e' = .returned (.bool (dcB x)) ∧ Below w.heap.size w w' := by
  obtain ⟨a, b, s, l⟩ := x
  rcases kinds5 a with h | ⟨h, h'⟩ | rfl | rfl | rfl | rfl | rfl
  · exact declForm_klt a h b s l w
  · exact declForm_kgt a h h' b s l w
  · exact declForm_k1 b s l w
  · exact declForm_k2 b s l w
  · exact declForm_k3 b s l w
  · exact declForm_k4 b s l w
  · exact declForm_k5 b s l w
set_option maxHeartbeats 1000000 in
set_option maxRecDepth 100000 in
theorem refDeclForm_klt (a : Int) (h1 : a < 1) (b : ByteArray) (s : Int) (l : List Int) {A : Option Addr} {c : Nat} (w : World) :
    Calls Tryz.prog 125 #[.agg #[.int .i64 a, .string b, .int .i64 s, .slice A l.length c]] w fun e' w' => e' = .returned (.bool (dcB ⟨a, b, s, l⟩)) ∧ Below w.heap.size w w' := by
  have gout : ∀ {o : Obj} (g : G (w.alloc o)), Below w.heap.size w g.W := fun g => ((Below.refl _ _).alloc (Nat.le_refl _) _).trans (g.below.mono (by simp))
  have h0 : dcB ⟨a, b, s, l⟩ = false := by simp [dcB]; omega
  rw [h0]
  clear h0
  go_enter Tryz.func125, Tryz.ntmps125
  go_upto_region 1 with (fail)
  refine wp_grown ?_
  intro gg
  go_wp2_with fail
  go_ret
  exact ⟨ret_bool2 (by simp), gout _⟩
set_option maxHeartbeats 1000000 in
set_option maxRecDepth 100000 in
theorem refDeclForm_kgt (a : Int) (h1 : ¬ a < 1) (h2 : a > 5) (b : ByteArray) (s : Int) (l : List Int) {A : Option Addr} {c : Nat} (w : World) :
    Calls Tryz.prog 125 #[.agg #[.int .i64 a, .string b, .int .i64 s, .slice A l.length c]] w fun e' w' => e' = .returned (.bool (dcB ⟨a, b, s, l⟩)) ∧ Below w.heap.size w w' := by
  have gout : ∀ {o : Obj} (g : G (w.alloc o)), Below w.heap.size w g.W := fun g => ((Below.refl _ _).alloc (Nat.le_refl _) _).trans (g.below.mono (by simp))
  have h0 : dcB ⟨a, b, s, l⟩ = false := by simp [dcB]; omega
  rw [h0]
  clear h0
  go_enter Tryz.func125, Tryz.ntmps125
  go_upto_region 1 with (fail)
  refine wp_grown ?_
  intro gg
  go_wp2_with fail
  go_ret
  exact ⟨ret_bool2 (by simp), gout _⟩
set_option maxHeartbeats 1000000 in
set_option maxRecDepth 100000 in
theorem refDeclForm_k1 (b : ByteArray) (s : Int) (l : List Int) {A : Option Addr} {c : Nat} (w : World) :
    Calls Tryz.prog 125 #[.agg #[.int .i64 1, .string b, .int .i64 s, .slice A l.length c]] w fun e' w' => e' = .returned (.bool (dcB ⟨1, b, s, l⟩)) ∧ Below w.heap.size w w' := by
  have gout : ∀ {o : Obj} (g : G (w.alloc o)), Below w.heap.size w g.W := fun g => ((Below.refl _ _).alloc (Nat.le_refl _) _).trans (g.below.mono (by simp))
  go_enter Tryz.func125, Tryz.ntmps125
  go_upto_region 1 with (fail)
  refine wp_grown ?_
  intro gg
  go_wp2_with fail
  rcases bcases (namedB b) with h1 | h1
  all_goals
    refine (call_of (g := gg) (refName_v h1 gg.W)).mono ?_
    rintro _ _ ⟨rfl, gg, rfl⟩
  · rcases Int.lt_or_le s 0 with h2 | h2
    · have h3 : ¬ 0 ≤ s := by omega
      go_wp2_with fail
      go_ret
      exact ⟨ret_bool2 (by simp [dcB, h1, h3] <;> (intros; omega)), gout _⟩
    · have h3 : ¬ s < 0 := by omega
      rcases l with _ | ⟨y, r⟩
      all_goals
        (try have h6 : ((r.length : Int) + 1 == 0) = false := by simp; omega)
        go_wp2_with fail
        go_ret
        exact ⟨ret_bool2 (by simp [dcB, h1, h2]; try omega), gout _⟩
  · go_wp2_with fail
    go_ret
    exact ⟨ret_bool2 (by simp [dcB, h1]), gout _⟩
set_option maxHeartbeats 1000000 in
set_option maxRecDepth 100000 in
theorem refDeclForm_k2 (b : ByteArray) (s : Int) (l : List Int) {A : Option Addr} {c : Nat} (w : World) :
    Calls Tryz.prog 125 #[.agg #[.int .i64 2, .string b, .int .i64 s, .slice A l.length c]] w fun e' w' => e' = .returned (.bool (dcB ⟨2, b, s, l⟩)) ∧ Below w.heap.size w w' := by
  have gout : ∀ {o : Obj} (g : G (w.alloc o)), Below w.heap.size w g.W := fun g => ((Below.refl _ _).alloc (Nat.le_refl _) _).trans (g.below.mono (by simp))
  go_enter Tryz.func125, Tryz.ntmps125
  go_upto_region 1 with (fail)
  refine wp_grown ?_
  intro gg
  go_wp2_with fail
  rcases bcases (namedB b) with h1 | h1
  all_goals
    refine (call_of (g := gg) (refName_v h1 gg.W)).mono ?_
    rintro _ _ ⟨rfl, gg, rfl⟩
  · rcases Int.lt_or_le s 0 with h2 | h2
    · have h3 : ¬ 0 ≤ s := by omega
      go_wp2_with fail
      go_ret
      exact ⟨ret_bool2 (by simp [dcB, h1, h3] <;> (intros; omega)), gout _⟩
    · have h3 : ¬ s < 0 := by omega
      rcases l with _ | ⟨y, r⟩
      all_goals
        (try have h6 : ((r.length : Int) + 1 == 0) = false := by simp; omega)
        go_wp2_with fail
        go_ret
        exact ⟨ret_bool2 (by simp [dcB, h1, h2]; try omega), gout _⟩
  · go_wp2_with fail
    go_ret
    exact ⟨ret_bool2 (by simp [dcB, h1]), gout _⟩
set_option maxHeartbeats 1000000 in
set_option maxRecDepth 100000 in
theorem refDeclForm_k3 (b : ByteArray) (s : Int) (l : List Int) {A : Option Addr} {c : Nat} (w : World) :
    Calls Tryz.prog 125 #[.agg #[.int .i64 3, .string b, .int .i64 s, .slice A l.length c]] w fun e' w' => e' = .returned (.bool (dcB ⟨3, b, s, l⟩)) ∧ Below w.heap.size w w' := by
  have gout : ∀ {o : Obj} (g : G (w.alloc o)), Below w.heap.size w g.W := fun g => ((Below.refl _ _).alloc (Nat.le_refl _) _).trans (g.below.mono (by simp))
  go_enter Tryz.func125, Tryz.ntmps125
  go_upto_region 1 with (fail)
  refine wp_grown ?_
  intro gg
  go_wp2_with fail
  rcases bcases (namedB b) with h1 | h1
  all_goals
    refine (call_of (g := gg) (refName_v h1 gg.W)).mono ?_
    rintro _ _ ⟨rfl, gg, rfl⟩
  · rcases Int.lt_or_le s 0 with h2 | h2
    · have h3 : ¬ 0 ≤ s := by omega
      go_wp2_with fail
      go_ret
      exact ⟨ret_bool2 (by simp [dcB, h1, h3] <;> (intros; omega)), gout _⟩
    · have h3 : ¬ s < 0 := by omega
      rcases Int.lt_or_le 0 s with h4 | h4
      · rcases l with _ | ⟨y, r⟩
        all_goals
          go_wp2_with fail
          go_ret
          exact ⟨ret_bool2 (by simp [dcB, h1, h2, h4]), gout _⟩
      · have h5 : ¬ 0 < s := by omega
        rcases l with _ | ⟨y, r⟩
        all_goals
          go_wp2_with fail
          go_ret
          exact ⟨ret_bool2 (by simp [dcB, h1, h2, h5]), gout _⟩
  · go_wp2_with fail
    go_ret
    exact ⟨ret_bool2 (by simp [dcB, h1]), gout _⟩
set_option maxHeartbeats 1000000 in
set_option maxRecDepth 100000 in
theorem refDeclForm_k4 (b : ByteArray) (s : Int) (l : List Int) {A : Option Addr} {c : Nat} (w : World) :
    Calls Tryz.prog 125 #[.agg #[.int .i64 4, .string b, .int .i64 s, .slice A l.length c]] w fun e' w' => e' = .returned (.bool (dcB ⟨4, b, s, l⟩)) ∧ Below w.heap.size w w' := by
  have gout : ∀ {o : Obj} (g : G (w.alloc o)), Below w.heap.size w g.W := fun g => ((Below.refl _ _).alloc (Nat.le_refl _) _).trans (g.below.mono (by simp))
  go_enter Tryz.func125, Tryz.ntmps125
  go_upto_region 1 with (fail)
  refine wp_grown ?_
  intro gg
  go_wp2_with fail
  rcases bcases (namedB b) with h1 | h1
  all_goals
    refine (call_of (g := gg) (refName_v h1 gg.W)).mono ?_
    rintro _ _ ⟨rfl, gg, rfl⟩
  · rcases Int.lt_or_le s 0 with h2 | h2
    · have h3 : ¬ 0 ≤ s := by omega
      go_wp2_with fail
      go_ret
      exact ⟨ret_bool2 (by simp [dcB, h1, h3] <;> (intros; omega)), gout _⟩
    · have h3 : ¬ s < 0 := by omega
      rcases l with _ | ⟨y, r⟩
      all_goals
        (try have h6 : ((r.length : Int) + 1 == 0) = false := by simp; omega)
        go_wp2_with fail
        go_ret
        exact ⟨ret_bool2 (by simp [dcB, h1, h2]; try omega), gout _⟩
  · go_wp2_with fail
    go_ret
    exact ⟨ret_bool2 (by simp [dcB, h1]), gout _⟩
set_option maxHeartbeats 1000000 in
set_option maxRecDepth 100000 in
theorem refDeclForm_k5 (b : ByteArray) (s : Int) (l : List Int) {A : Option Addr} {c : Nat} (w : World) :
    Calls Tryz.prog 125 #[.agg #[.int .i64 5, .string b, .int .i64 s, .slice A l.length c]] w fun e' w' => e' = .returned (.bool (dcB ⟨5, b, s, l⟩)) ∧ Below w.heap.size w w' := by
  have gout : ∀ {o : Obj} (g : G (w.alloc o)), Below w.heap.size w g.W := fun g => ((Below.refl _ _).alloc (Nat.le_refl _) _).trans (g.below.mono (by simp))
  go_enter Tryz.func125, Tryz.ntmps125
  go_upto_region 1 with (fail)
  refine wp_grown ?_
  intro gg
  go_wp2_with fail
  rcases bcases (namedB b) with h1 | h1
  all_goals
    refine (call_of (g := gg) (refName_v h1 gg.W)).mono ?_
    rintro _ _ ⟨rfl, gg, rfl⟩
  · rcases Int.lt_or_le s 0 with h2 | h2
    · have h3 : ¬ 0 ≤ s := by omega
      go_wp2_with fail
      go_ret
      exact ⟨ret_bool2 (by simp [dcB, h1, h3] <;> (intros; omega)), gout _⟩
    · have h3 : ¬ s < 0 := by omega
      rcases l with _ | ⟨y, r⟩
      all_goals
        (try have h6 : ((r.length : Int) + 1 == 0) = false := by simp; omega)
        go_wp2_with fail
        go_ret
        exact ⟨ret_bool2 (by simp [dcB, h1, h2]; try omega), gout _⟩
  · go_wp2_with fail
    go_ret
    exact ⟨ret_bool2 (by simp [dcB, h1]), gout _⟩
theorem refDeclForm_calls (x : S70) (A : Option Addr) (c : Nat) (w : World) : Calls Tryz.prog 125 #[.agg #[.int .i64 x.f0, .string x.f1, .int .i64 x.f2, .slice A x.f3.length c]] w fun e' w' => e' = .returned (.bool (dcB x)) ∧ Below w.heap.size w w' := by
  obtain ⟨a, b, s, l⟩ := x
  rcases kinds5 a with h | ⟨h, h'⟩ | rfl | rfl | rfl | rfl | rfl
  · exact refDeclForm_klt a h b s l w
  · exact refDeclForm_kgt a h h' b s l w
  · exact refDeclForm_k1 b s l w
  · exact refDeclForm_k2 b s l w
  · exact refDeclForm_k3 b s l w
  · exact refDeclForm_k4 b s l w
  · exact refDeclForm_k5 b s l w
end Go.Proofs.YtfigjpehecibeaaGreat.L
end
section
namespace Go.Proofs.YtfigjpehecibeaaGreat.L
open Go.RowKit Go.Proofs.YtfigjpehecibeaaGreatW.PrintWords Go.Proofs.YtfigjpehecibeaaGreatW.PrintLast Go.Proofs.YtfigjpehecibeaaGreatW.PrintMore Go.Proofs.YtfigjpehecibeaaGreat.Gr
set_option linter.unusedVariables false
set_option linter.unusedSimpArgs false
attribute [local go_sem] G.cell
def formB (nm : ByteArray) (wd ln : Int) (ds : List S70) (bd : List S119) : Bool := namedB nm && decide (0 ≤ wd) && decide (0 ≤ ln) && (ds.all dcB && bdB bd)
section
variable {nm : ByteArray} {wd ln : Int} {ds : List S70} {bd : List S119}
theorem form_no1 (h : namedB nm = false) : formB nm wd ln ds bd = false := by unfold formB; rw [h]; rfl
theorem form_no2 (h : wd < 0) : formB nm wd ln ds bd = false := by unfold formB; rw [decide_eq_false (show ¬ 0 ≤ wd by omega)]; simp
theorem form_no3 (h : ln < 0) : formB nm wd ln ds bd = false := by unfold formB; rw [decide_eq_false (show ¬ 0 ≤ ln by omega)]; simp
theorem form_yes (h1 : namedB nm = true) (h2 : 0 ≤ wd) (h3 : 0 ≤ ln) : formB nm wd ln ds bd = (ds.all dcB && bdB bd) := by unfold formB; rw [h1, decide_eq_true h2, decide_eq_true h3]; simp
end
theorem dc_all_has_no {l : List S70} {y : S70} (h : y ∈ l) (hn : dcB y = false) : l.all dcB = false := by
  rw [List.all_eq_false]
  exact ⟨y, h, by rw [hn]; decide⟩
theorem rd44_mem {l : List S70} {k : Nat} (hlt : k < l.length) : rd_T70 l (k : Int) ∈ l := by
  unfold rd_T70; rw [Int.toNat_natCast, List.getD_eq_getElem?_getD, List.getElem?_eq_getElem hlt]; exact List.getElem_mem _
theorem dc_all_have {l : List S70} (h : ∀ j, j < l.length → dcB (rd_T70 l (j : Int)) = true) : l.all dcB = true := by
  rw [List.all_eq_true]
  intro y hy
  obtain ⟨j, hj, rfl⟩ := List.getElem_of_mem hy
  have := h j hj
  unfold rd_T70 at this
  rwa [Int.toNat_natCast, List.getD_eq_getElem?_getD, List.getElem?_eq_getElem hj] at this
set_option maxHeartbeats 4000000 in
set_option maxRecDepth 100000 in
theorem Form_walk (nm : ByteArray) (wd ln : Int) (ds : List S70) (bd : List S119) (A3 : Option Addr) (c3 : Nat) (A4 : Option Addr) (c4 : Nat) (w : World) (hd : k70.C w A3 ds.length ds) (hld : ds.length ≤ c3) (hb : k119.C w A4 bd.length bd) (hlb : bd.length ≤ c4) :
    Calls Tryz.prog 75 #[.agg #[.string nm, .int .i64 wd, .int .i64 ln, .slice A3 ds.length c3, .slice A4 bd.length c4]] w fun e w' => e = .returned (.bool (formB nm wd ln ds bd)) ∧ Below w.heap.size w w' := by
  have gout : ∀ {o : Obj} (g : G (w.alloc o)), Below w.heap.size w g.W := fun g => ((Below.refl _ _).alloc (Nat.le_refl _) _).trans (g.below.mono (by simp))
  have goutA : ∀ {o : Obj} (g : G (w.alloc o)) (o' : Obj), Below w.heap.size w (g.W.alloc o') := fun g o' => (gout g).alloc (gout g).size o'
  have hlm := hd.2.1
  have HD := Aside0.mk hd
  have HB := Aside0.mk hb
  have HLB := Aside0.mk hlb
  clear hd hb hlb
  go_enter Tryz.func75, Tryz.ntmps75
  go_upto_region 1 with (fail)
  refine wp_grown ?_
  intro gg
  go_wp2_with fail
  rcases bcases (namedB nm) with h1 | h1
  all_goals
    refine (call_of (g := gg) (named_v h1 gg.W)).mono ?_
    rintro _ _ ⟨rfl, gg, rfl⟩
  · rcases Int.lt_or_le wd 0 with h2 | h2
    · go_wp2_with fail
      go_ret
      exact ⟨ret_bool2 (form_no2 h2).symm, gout _⟩
    rcases Int.lt_or_le ln 0 with h3 | h3
    · have h2' : ¬ wd < 0 := by omega
      go_wp2_with fail
      go_ret
      exact ⟨ret_bool2 (form_no3 h3).symm, gout _⟩
    · have h2' : ¬ wd < 0 := by omega
      have h3' : ¬ ln < 0 := by omega
      have FY := Aside0.mk (form_yes (ds := ds) (bd := bd) h1 h2 h3)
      clear h2 h3
      go_wp2
      clear h1 h2' h3'
      go_loopw [22] (fun i W => ∃ (k : Nat) (g : G (gw gg)), i = .int .i64 k ∧ W = g.W ∧ k ≤ ds.length ∧ Aside0 (∀ j, j < k → dcB (rd_T70 ds (j : Int)) = true)) (fun i _ => ds.length - (intOf i).toNat)
      case atStart => exact ⟨0, gg, rfl, rfl, Nat.zero_le _, ⟨fun j hj => absurd hj (Nat.not_lt_zero _)⟩⟩
      case round =>
        obtain ⟨k, g, rfl, rfl, hk, HK⟩ := hrel
        by_cases hlt : k < ds.length
        · obtain ⟨ad, A3', c3', e1, q0, q1, q2, q3, l3, g3⟩ := at_T70 HD.out (k : Int) (Int.natCast_nonneg _) (by omega)
          cases e1
          rw [Int.toNat_natCast] at q0 q1 q2 q3
          replace q0 := ((gout g).cell (World.block_lt_of_cell? w _ q0)).trans q0
          replace q1 := ((gout g).cell (World.block_lt_of_cell? w _ q1)).trans q1
          replace q2 := ((gout g).cell (World.block_lt_of_cell? w _ q2)).trans q2
          replace q3 := ((gout g).cell (World.block_lt_of_cell? w _ q3)).trans q3
          have hi1 : (k : Int) < (ds.length : Int) := by omega
          have MEM := Aside0.mk (rd44_mem hlt)
          rcases bcases (dcB (rd_T70 ds (k : Int))) with hy | hy
          all_goals
            have HY := Aside0.mk hy
            clear hy
            go_wp2_with fail
            refine (call_of_alloc (g := g) (declForm_calls (rd_T70 ds (k : Int)) A3' c3' _)).mono ?_
            rw [HY.out]
            rintro _ _ ⟨rfl, gg, rfl⟩
            go_wp2
          · refine ⟨⟨k + 1, gg, by go_num, rfl, by omega, ⟨fun j hj => ?_⟩⟩, by simp [intOf]; omega⟩
            by_cases hj2 : j = k
            · rw [hj2]; exact HY.out
            · exact HK.out j (by omega)
          · go_ret
            exact ⟨ret_bool2 (by rw [FY.out, dc_all_has_no MEM.out HY.out]; rfl), gout _⟩
        · have hall := Aside0.mk (dc_all_have (fun j hj => HK.out j (by omega)))
          clear HK
          go_wp2_with fail
          refine (call_of (g := g) (bodyForm_calls bd A4 c4 _ (Kd.C_below HB.out (gout g)) HLB.out)).mono ?_
          rintro _ _ ⟨rfl, gg, rfl⟩
          go_wp2
          go_ret
          exact ⟨ret_bool2 (by rw [FY.out, hall.out]; rfl), gout _⟩
  · go_wp2_with fail
    go_ret
    exact ⟨ret_bool2 (form_no1 h1).symm, gout _⟩
set_option maxHeartbeats 4000000 in
set_option maxRecDepth 100000 in
theorem refForm_walk (nm : ByteArray) (wd ln : Int) (ds : List S70) (bd : List S119) (A3 : Option Addr) (c3 : Nat) (A4 : Option Addr) (c4 : Nat) (w : World) (hd : k70.C w A3 ds.length ds) (hld : ds.length ≤ c3) (hb : k119.C w A4 bd.length bd) (hlb : bd.length ≤ c4) :
    Calls Tryz.prog 78 #[.agg #[.string nm, .int .i64 wd, .int .i64 ln, .slice A3 ds.length c3, .slice A4 bd.length c4]] w fun e w' => e = .returned (.bool (formB nm wd ln ds bd)) ∧ Below w.heap.size w w' := by
  have gout : ∀ {o : Obj} (g : G (w.alloc o)), Below w.heap.size w g.W := fun g => ((Below.refl _ _).alloc (Nat.le_refl _) _).trans (g.below.mono (by simp))
  have goutA : ∀ {o : Obj} (g : G (w.alloc o)) (o' : Obj), Below w.heap.size w (g.W.alloc o') := fun g o' => (gout g).alloc (gout g).size o'
  have hlm := hd.2.1
  have HD := Aside0.mk hd
  have HB := Aside0.mk hb
  have HLB := Aside0.mk hlb
  clear hd hb hlb
  go_enter Tryz.func78, Tryz.ntmps78
  go_upto_region 1 with (fail)
  refine wp_grown ?_
  intro gg
  go_wp2_with fail
  rcases bcases (namedB nm) with h1 | h1
  all_goals
    refine (call_of (g := gg) (refName_v h1 gg.W)).mono ?_
    rintro _ _ ⟨rfl, gg, rfl⟩
  · rcases Int.lt_or_le wd 0 with h2 | h2
    · go_wp2_with fail
      go_ret
      exact ⟨ret_bool2 (form_no2 h2).symm, gout _⟩
    rcases Int.lt_or_le ln 0 with h3 | h3
    · have h2' : ¬ wd < 0 := by omega
      go_wp2_with fail
      go_ret
      exact ⟨ret_bool2 (form_no3 h3).symm, gout _⟩
    · have h2' : ¬ wd < 0 := by omega
      have h3' : ¬ ln < 0 := by omega
      have FY := Aside0.mk (form_yes (ds := ds) (bd := bd) h1 h2 h3)
      clear h2 h3
      go_wp2
      clear h1 h2' h3'
      go_loopw [3] (fun i W => ∃ (k : Nat) (g : G (gw gg)), i = .int .i64 k ∧ W = g.W ∧ k ≤ ds.length ∧ Aside0 (∀ j, j < k → dcB (rd_T70 ds (j : Int)) = true)) (fun i _ => ds.length - (intOf i).toNat)
      case atStart => exact ⟨0, gg, rfl, rfl, Nat.zero_le _, ⟨fun j hj => absurd hj (Nat.not_lt_zero _)⟩⟩
      case round =>
        obtain ⟨k, g, rfl, rfl, hk, HK⟩ := hrel
        by_cases hlt : k < ds.length
        · obtain ⟨ad, A3', c3', e1, q0, q1, q2, q3, l3, g3⟩ := at_T70 HD.out (k : Int) (Int.natCast_nonneg _) (by omega)
          cases e1
          rw [Int.toNat_natCast] at q0 q1 q2 q3
          replace q0 := ((gout g).cell (World.block_lt_of_cell? w _ q0)).trans q0
          replace q1 := ((gout g).cell (World.block_lt_of_cell? w _ q1)).trans q1
          replace q2 := ((gout g).cell (World.block_lt_of_cell? w _ q2)).trans q2
          replace q3 := ((gout g).cell (World.block_lt_of_cell? w _ q3)).trans q3
          have hi1 : (k : Int) < (ds.length : Int) := by omega
          have MEM := Aside0.mk (rd44_mem hlt)
          rcases bcases (dcB (rd_T70 ds (k : Int))) with hy | hy
          all_goals
            have HY := Aside0.mk hy
            clear hy
            go_wp2_with fail
            refine (call_of (g := g) (refDeclForm_calls (rd_T70 ds (k : Int)) A3' c3' _)).mono ?_
            rw [HY.out]
            rintro _ _ ⟨rfl, gg, rfl⟩
            go_wp2
          · refine ⟨⟨k + 1, gg, by go_num, rfl, by omega, ⟨fun j hj => ?_⟩⟩, by simp [intOf]; omega⟩
            by_cases hj2 : j = k
            · rw [hj2]; exact HY.out
            · exact HK.out j (by omega)
          · go_ret
            exact ⟨ret_bool2 (by rw [FY.out, dc_all_has_no MEM.out HY.out]; rfl), gout _⟩
        · have hall := Aside0.mk (dc_all_have (fun j hj => HK.out j (by omega)))
          clear HK
          go_wp2_with fail
          refine (call_of (g := g) (stmtsForm_calls bd A4 c4 _ (Kd.C_below HB.out (gout g)) HLB.out)).mono ?_
          rintro _ _ ⟨rfl, gg, rfl⟩
          go_wp2
          go_ret
          exact ⟨ret_bool2 (by rw [FY.out, hall.out]; rfl), gout _⟩
  · go_wp2_with fail
    go_ret
    exact ⟨ret_bool2 (form_no1 h1).symm, gout _⟩
end Go.Proofs.YtfigjpehecibeaaGreat.L
end
section
namespace Go.Proofs.YtfigjpehecibeaaGreat.L
open Go.RowKit Go.Proofs.YtfigjpehecibeaaGreatW.PrintWords Go.Proofs.YtfigjpehecibeaaGreatW.PrintLast Go.Proofs.YtfigjpehecibeaaGreatW.PrintMore Go.Proofs.YtfigjpehecibeaaGreat.Gr
set_option linter.unusedVariables false
set_option linter.unusedSimpArgs false
attribute [local go_sem] G.cell
mutual
def deepE : S116 → Nat
  | ⟨_, _, _, l⟩ => deepL l + 1
def deepL : List S116 → Nat
  | [] => 0
  | x :: r => max (deepE x) (deepL r)
end
theorem deepE_eq (x : S116) : deepE x = deepL x.f3 + 1 := by
  obtain ⟨a, b, s, l⟩ := x
  rw [deepE]
theorem deepL_add (l : List S116) (x : S116) : deepL (l ++ [x]) = max (deepL l) (deepE x) := by
  induction l with
  | nil => simp [deepL]
  | cons y r ih => rw [List.cons_append, deepL, ih, deepL]; omega
theorem deepL_mem {l : List S116} {x : S116} (h : x ∈ l) : deepE x ≤ deepL l := by
  induction l with
  | nil => cases h
  | cons y r ih =>
    rw [deepL]
    rcases List.mem_cons.1 h with rfl | h
    · omega
    · have := ih h; omega
theorem take_rd116 {l : List S116} {k : Nat} (hlt : k < l.length) : l.take (k + 1) = l.take k ++ [rd_T116 l (k : Int)] := by
  unfold rd_T116
  rw [Int.toNat_natCast, List.getD_eq_getElem?_getD, List.getElem?_eq_getElem hlt, List.take_add_one, List.getElem?_eq_getElem hlt]
  rfl
theorem rd75_mem {l : List S116} {k : Nat} (hlt : k < l.length) : rd_T116 l (k : Int) ∈ l := by
  unfold rd_T116; rw [Int.toNat_natCast, List.getD_eq_getElem?_getD, List.getElem?_eq_getElem hlt]; exact List.getElem_mem _
theorem rd75_size {l : List S116} {x : S116} {n : Nat} (hx : x.f3 = l) {y : S116} (hy : y ∈ l) (h : SizeOf.sizeOf x ≤ n + 1) : SizeOf.sizeOf y ≤ n := by
  have := List.sizeOf_lt_of_mem hy
  obtain ⟨a, b, c, l⟩ := x
  simp at h hx
  subst hx
  omega
theorem wrapN {n : Nat} (h : n < 9223372036854775807) : wrap64 ((n : Int) + 1) = ((n + 1 : Nat) : Int) := by unfold wrap64; omega
abbrev gw0 {w : World} (_ : G w) : World := w
theorem wp_grown0 {P : Program} {c : Code} {Q : Exit → Act → World → Prop} {a : Act} {w : World} (h : ∀ g : G w, c.wp P Q a g.W) : c.wp P Q a w := h ⟨w, Below.refl _ _⟩
def ExprC (f : FuncId) (x : S116) (r : Int) : Prop := ∀ (A : Option Addr) (c : Nat) (w : World), k116.C w A x.f3.length x.f3 → x.f3.length ≤ c →
  Calls Tryz.prog f #[.agg #[.int .i64 x.f0, .int .u64 x.f1, .string x.f2, .slice A x.f3.length c]] w fun e w' => e = .returned (.int .i64 r) ∧ Below w.heap.size w w'
set_option maxHeartbeats 1000000 in
set_option maxRecDepth 100000 in
theorem deep_walk (x : S116) (hb : deepE x ≤ 1099511627776) (ih : ∀ y ∈ x.f3, ExprC 245 y (deepE y)) : ExprC 245 x (deepE x) := by
  intro A c w hc hl
  have gout : ∀ {o : Obj} (g : G (w.alloc o)), Below w.heap.size w g.W := fun g => ((Below.refl _ _).alloc (Nat.le_refl _) _).trans (g.below.mono (by simp))
  rw [deepE_eq] at hb ⊢
  obtain ⟨x0, x1, x2, l⟩ := x
  simp only at *
  have IH := Aside0.mk ih
  have HC := Aside0.mk hc
  have HB := Aside0.mk hb
  have hlm := hc.2.1
  clear ih hc hb
  go_enter Tryz.func245, Tryz.ntmps245
  go_upto_region 1 with (fail)
  refine wp_grown0 ?_
  intro gg
  go_wp2
  go_loopw [4, 3] (fun i n W => ∃ (k : Nat) (g : G (gw0 gg)), i = .int .i64 k ∧ n = .int .i64 (deepL (l.take k)) ∧ W = g.W ∧ k ≤ l.length) (fun i n _ => l.length - (intOf i).toNat)
  case atStart => exact ⟨0, gg, rfl, rfl, rfl, Nat.zero_le _⟩
  case round =>
    obtain ⟨k, g, rfl, rfl, rfl, hk⟩ := hrel
    by_cases hlt : k < l.length
    · obtain ⟨ad, A3, c3, e1, q0, q1, q2, q3, l3, g3⟩ := at_T116 HC.out (k : Int) (Int.natCast_nonneg _) (by omega)
      cases e1
      rw [Int.toNat_natCast] at q0 q1 q2 q3
      replace q0 := ((gout g).cell (World.block_lt_of_cell? w _ q0)).trans q0
      replace q1 := ((gout g).cell (World.block_lt_of_cell? w _ q1)).trans q1
      replace q2 := ((gout g).cell (World.block_lt_of_cell? w _ q2)).trans q2
      replace q3 := ((gout g).cell (World.block_lt_of_cell? w _ q3)).trans q3
      have hi1 : (k : Int) < (l.length : Int) := by omega
      have G3 := Aside0.mk g3
      have L3 := Aside0.mk l3
      clear g3 l3
      have MEM := Aside0.mk (rd75_mem hlt)
      have T := Aside0.mk (congrArg deepL (take_rd116 hlt))
      go_wp2_with fail
      refine (call_of (g := g) (IH.out _ MEM.out A3 c3 g.W (Kd.C_below G3.out (gout g)) L3.out)).mono ?_
      rintro _ _ ⟨rfl, gg2, rfl⟩
      rcases Nat.lt_or_ge (deepL (l.take k)) (deepE (rd_T116 l (k : Int))) with h | h
      · have h2 : (deepL (l.take k) : Int) < (deepE (rd_T116 l (k : Int)) : Int) := by omega
        go_wp2_with fail
        have T2 := T.out
        rw [deepL_add] at T2
        exact ⟨⟨k + 1, gg2, by go_num, by rw [T2, Nat.max_eq_right (Nat.le_of_lt h)], rfl, by omega⟩, by simp [intOf]; omega⟩
      · have h2 : ¬ (deepL (l.take k) : Int) < (deepE (rd_T116 l (k : Int)) : Int) := by omega
        go_wp2_with fail
        have T2 := T.out
        rw [deepL_add] at T2
        exact ⟨⟨k + 1, gg2, by go_num, by rw [T2, Nat.max_eq_left h], rfl, by omega⟩, by simp [intOf]; omega⟩
    · have W := Aside0.mk (wrapN (n := deepL l) (by have := HB.out; omega))
      go_wp2_with fail
      go_ret
      refine ⟨?_, gout g⟩
      rw [show k = l.length by omega, List.take_length, W.out]
      rfl
theorem deep_calls : ∀ (n : Nat) (x : S116), SizeOf.sizeOf x ≤ n → deepE x ≤ 1099511627776 → ExprC 245 x (deepE x) := by
  intro n
  induction n with
  | zero => intro x h; obtain ⟨a, b, c, l⟩ := x; simp at h
  | succ n ih =>
    intro x h hb
    exact deep_walk x hb fun y hy => ih y (rd75_size rfl hy h) (by have := deepL_mem hy; rw [deepE_eq] at hb; omega)
end Go.Proofs.YtfigjpehecibeaaGreat.L
end
