/- A declaration is of the form: the walk; printed by wip's dc.py. -/
import Derived.Test.YtnacekhfebjdfaaLd0
namespace Go.Proofs.Ytnacekhfebjdfaa.L
open Go.RowKit Go.Proofs.YtnacekhfebjdfaaW.PrintWords Go.Proofs.YtnacekhfebjdfaaW.PrintLast Go.Proofs.YtnacekhfebjdfaaW.PrintMore Go.Proofs.Ytnacekhfebjdfaa.Gr
set_option linter.unusedVariables false
set_option linter.unusedSimpArgs false
attribute [local go_sem] G.cell

/-- A declaration is of the form. -/
def dcB (x : S31) : Bool := decide (1 ≤ x.f0) && decide (x.f0 ≤ 5) && namedB x.f1 && decide (0 ≤ x.f2) && (if x.f0 = 3 then decide (0 < x.f3.length) && decide (0 < x.f2) else x.f3.isEmpty)
theorem kinds5 (a : Int) : a < 1 ∨ (¬ a < 1 ∧ a > 5) ∨ a = 1 ∨ a = 2 ∨ a = 3 ∨ a = 4 ∨ a = 5 := by omega
set_option maxHeartbeats 1000000 in
set_option maxRecDepth 100000 in
theorem declForm_klt (a : Int) (h1 : a < 1) (b : ByteArray) (s : Int) (l : List Int) {A : Option Addr} {c : Nat} (w : World) :
    Calls Try.prog 10 #[.agg #[.int .i64 a, .string b, .int .i64 s, .slice A l.length c]] w fun e' w' => e' = .returned (.bool (dcB ⟨a, b, s, l⟩)) ∧ Below w.heap.size w w' := by
  have gout : ∀ {o : Obj} (g : G (w.alloc o)), Below w.heap.size w g.W := fun g => ((Below.refl _ _).alloc (Nat.le_refl _) _).trans (g.below.mono (by simp))
  have h0 : dcB ⟨a, b, s, l⟩ = false := by simp [dcB]; omega
  rw [h0]
  clear h0
  go_enter Try.func10, Try.ntmps10
  go_upto_region 1 with (fail)
  refine wp_grown ?_
  intro gg
  go_wp2_with fail
  go_ret
  exact ⟨ret_bool2 (by simp), gout _⟩
set_option maxHeartbeats 1000000 in
set_option maxRecDepth 100000 in
theorem declForm_kgt (a : Int) (h1 : ¬ a < 1) (h2 : a > 5) (b : ByteArray) (s : Int) (l : List Int) {A : Option Addr} {c : Nat} (w : World) :
    Calls Try.prog 10 #[.agg #[.int .i64 a, .string b, .int .i64 s, .slice A l.length c]] w fun e' w' => e' = .returned (.bool (dcB ⟨a, b, s, l⟩)) ∧ Below w.heap.size w w' := by
  have gout : ∀ {o : Obj} (g : G (w.alloc o)), Below w.heap.size w g.W := fun g => ((Below.refl _ _).alloc (Nat.le_refl _) _).trans (g.below.mono (by simp))
  have h0 : dcB ⟨a, b, s, l⟩ = false := by simp [dcB]; omega
  rw [h0]
  clear h0
  go_enter Try.func10, Try.ntmps10
  go_upto_region 1 with (fail)
  refine wp_grown ?_
  intro gg
  go_wp2_with fail
  go_ret
  exact ⟨ret_bool2 (by simp), gout _⟩
set_option maxHeartbeats 1000000 in
set_option maxRecDepth 100000 in
theorem declForm_k1 (b : ByteArray) (s : Int) (l : List Int) {A : Option Addr} {c : Nat} (w : World) :
    Calls Try.prog 10 #[.agg #[.int .i64 1, .string b, .int .i64 s, .slice A l.length c]] w fun e' w' => e' = .returned (.bool (dcB ⟨1, b, s, l⟩)) ∧ Below w.heap.size w w' := by
  have gout : ∀ {o : Obj} (g : G (w.alloc o)), Below w.heap.size w g.W := fun g => ((Below.refl _ _).alloc (Nat.le_refl _) _).trans (g.below.mono (by simp))
  go_enter Try.func10, Try.ntmps10
  go_upto_region 1 with (fail)
  refine wp_grown ?_
  intro gg
  go_wp2_with fail
  rcases bcases (namedB b) with h1 | h1
  all_goals
    refine (call_of (g := gg) (named_v h1 gg.W)).mono ?_
    rintro _ _ ⟨rfl, gg, rfl⟩
  · rcases Int.lt_or_le s 0 with h2 | h2
    · have h3 : ¬ 0 ≤ s := by omega
      go_wp2_with fail
      go_ret
      exact ⟨ret_bool2 (by simp [dcB, h1, h3] <;> (intros; omega)), gout _⟩
    · have h3 : ¬ s < 0 := by omega
      rcases l with _ | ⟨y, r⟩
      all_goals
        (try have h6 : ((r.length : Int) + 1 == 0) = false := by simp; omega)
        go_wp2_with fail
        go_ret
        exact ⟨ret_bool2 (by simp [dcB, h1, h2]; try omega), gout _⟩
  · go_wp2_with fail
    go_ret
    exact ⟨ret_bool2 (by simp [dcB, h1]), gout _⟩
set_option maxHeartbeats 1000000 in
set_option maxRecDepth 100000 in
theorem declForm_k2 (b : ByteArray) (s : Int) (l : List Int) {A : Option Addr} {c : Nat} (w : World) :
    Calls Try.prog 10 #[.agg #[.int .i64 2, .string b, .int .i64 s, .slice A l.length c]] w fun e' w' => e' = .returned (.bool (dcB ⟨2, b, s, l⟩)) ∧ Below w.heap.size w w' := by
  have gout : ∀ {o : Obj} (g : G (w.alloc o)), Below w.heap.size w g.W := fun g => ((Below.refl _ _).alloc (Nat.le_refl _) _).trans (g.below.mono (by simp))
  go_enter Try.func10, Try.ntmps10
  go_upto_region 1 with (fail)
  refine wp_grown ?_
  intro gg
  go_wp2_with fail
  rcases bcases (namedB b) with h1 | h1
  all_goals
    refine (call_of (g := gg) (named_v h1 gg.W)).mono ?_
    rintro _ _ ⟨rfl, gg, rfl⟩
  · rcases Int.lt_or_le s 0 with h2 | h2
    · have h3 : ¬ 0 ≤ s := by omega
      go_wp2_with fail
      go_ret
      exact ⟨ret_bool2 (by simp [dcB, h1, h3] <;> (intros; omega)), gout _⟩
    · have h3 : ¬ s < 0 := by omega
      rcases l with _ | ⟨y, r⟩
      all_goals
        (try have h6 : ((r.length : Int) + 1 == 0) = false := by simp; omega)
        go_wp2_with fail
        go_ret
        exact ⟨ret_bool2 (by simp [dcB, h1, h2]; try omega), gout _⟩
  · go_wp2_with fail
    go_ret
    exact ⟨ret_bool2 (by simp [dcB, h1]), gout _⟩
set_option maxHeartbeats 1000000 in
set_option maxRecDepth 100000 in
theorem declForm_k3 (b : ByteArray) (s : Int) (l : List Int) {A : Option Addr} {c : Nat} (w : World) :
    Calls Try.prog 10 #[.agg #[.int .i64 3, .string b, .int .i64 s, .slice A l.length c]] w fun e' w' => e' = .returned (.bool (dcB ⟨3, b, s, l⟩)) ∧ Below w.heap.size w w' := by
  have gout : ∀ {o : Obj} (g : G (w.alloc o)), Below w.heap.size w g.W := fun g => ((Below.refl _ _).alloc (Nat.le_refl _) _).trans (g.below.mono (by simp))
  go_enter Try.func10, Try.ntmps10
  go_upto_region 1 with (fail)
  refine wp_grown ?_
  intro gg
  go_wp2_with fail
  rcases bcases (namedB b) with h1 | h1
  all_goals
    refine (call_of (g := gg) (named_v h1 gg.W)).mono ?_
    rintro _ _ ⟨rfl, gg, rfl⟩
  · rcases Int.lt_or_le s 0 with h2 | h2
    · have h3 : ¬ 0 ≤ s := by omega
      go_wp2_with fail
      go_ret
      exact ⟨ret_bool2 (by simp [dcB, h1, h3] <;> (intros; omega)), gout _⟩
    · have h3 : ¬ s < 0 := by omega
      rcases Int.lt_or_le 0 s with h4 | h4
      · rcases l with _ | ⟨y, r⟩
        all_goals
          go_wp2_with fail
          go_ret
          exact ⟨ret_bool2 (by simp [dcB, h1, h2, h4]), gout _⟩
      · have h5 : ¬ 0 < s := by omega
        rcases l with _ | ⟨y, r⟩
        all_goals
          go_wp2_with fail
          go_ret
          exact ⟨ret_bool2 (by simp [dcB, h1, h2, h5]), gout _⟩
  · go_wp2_with fail
    go_ret
    exact ⟨ret_bool2 (by simp [dcB, h1]), gout _⟩
set_option maxHeartbeats 1000000 in
set_option maxRecDepth 100000 in
theorem declForm_k4 (b : ByteArray) (s : Int) (l : List Int) {A : Option Addr} {c : Nat} (w : World) :
    Calls Try.prog 10 #[.agg #[.int .i64 4, .string b, .int .i64 s, .slice A l.length c]] w fun e' w' => e' = .returned (.bool (dcB ⟨4, b, s, l⟩)) ∧ Below w.heap.size w w' := by
  have gout : ∀ {o : Obj} (g : G (w.alloc o)), Below w.heap.size w g.W := fun g => ((Below.refl _ _).alloc (Nat.le_refl _) _).trans (g.below.mono (by simp))
  go_enter Try.func10, Try.ntmps10
  go_upto_region 1 with (fail)
  refine wp_grown ?_
  intro gg
  go_wp2_with fail
  rcases bcases (namedB b) with h1 | h1
  all_goals
    refine (call_of (g := gg) (named_v h1 gg.W)).mono ?_
    rintro _ _ ⟨rfl, gg, rfl⟩
  · rcases Int.lt_or_le s 0 with h2 | h2
    · have h3 : ¬ 0 ≤ s := by omega
      go_wp2_with fail
      go_ret
      exact ⟨ret_bool2 (by simp [dcB, h1, h3] <;> (intros; omega)), gout _⟩
    · have h3 : ¬ s < 0 := by omega
      rcases l with _ | ⟨y, r⟩
      all_goals
        (try have h6 : ((r.length : Int) + 1 == 0) = false := by simp; omega)
        go_wp2_with fail
        go_ret
        exact ⟨ret_bool2 (by simp [dcB, h1, h2]; try omega), gout _⟩
  · go_wp2_with fail
    go_ret
    exact ⟨ret_bool2 (by simp [dcB, h1]), gout _⟩
set_option maxHeartbeats 1000000 in
set_option maxRecDepth 100000 in
theorem declForm_k5 (b : ByteArray) (s : Int) (l : List Int) {A : Option Addr} {c : Nat} (w : World) :
    Calls Try.prog 10 #[.agg #[.int .i64 5, .string b, .int .i64 s, .slice A l.length c]] w fun e' w' => e' = .returned (.bool (dcB ⟨5, b, s, l⟩)) ∧ Below w.heap.size w w' := by
  have gout : ∀ {o : Obj} (g : G (w.alloc o)), Below w.heap.size w g.W := fun g => ((Below.refl _ _).alloc (Nat.le_refl _) _).trans (g.below.mono (by simp))
  go_enter Try.func10, Try.ntmps10
  go_upto_region 1 with (fail)
  refine wp_grown ?_
  intro gg
  go_wp2_with fail
  rcases bcases (namedB b) with h1 | h1
  all_goals
    refine (call_of (g := gg) (named_v h1 gg.W)).mono ?_
    rintro _ _ ⟨rfl, gg, rfl⟩
  · rcases Int.lt_or_le s 0 with h2 | h2
    · have h3 : ¬ 0 ≤ s := by omega
      go_wp2_with fail
      go_ret
      exact ⟨ret_bool2 (by simp [dcB, h1, h3] <;> (intros; omega)), gout _⟩
    · have h3 : ¬ s < 0 := by omega
      rcases l with _ | ⟨y, r⟩
      all_goals
        (try have h6 : ((r.length : Int) + 1 == 0) = false := by simp; omega)
        go_wp2_with fail
        go_ret
        exact ⟨ret_bool2 (by simp [dcB, h1, h2]; try omega), gout _⟩
  · go_wp2_with fail
    go_ret
    exact ⟨ret_bool2 (by simp [dcB, h1]), gout _⟩
theorem declForm_calls (x : S31) (A : Option Addr) (c : Nat) (w : World) : Calls Try.prog 10 #[.agg #[.int .i64 x.f0, .string x.f1, .int .i64 x.f2, .slice A x.f3.length c]] w fun e' w' => e' = .returned (.bool (dcB x)) ∧ Below w.heap.size w w' := by
  obtain ⟨a, b, s, l⟩ := x
  rcases kinds5 a with h | ⟨h, h'⟩ | rfl | rfl | rfl | rfl | rfl
  · exact declForm_klt a h b s l w
  · exact declForm_kgt a h h' b s l w
  · exact declForm_k1 b s l w
  · exact declForm_k2 b s l w
  · exact declForm_k3 b s l w
  · exact declForm_k4 b s l w
  · exact declForm_k5 b s l w
set_option maxHeartbeats 1000000 in
set_option maxRecDepth 100000 in
theorem refDeclForm_klt (a : Int) (h1 : a < 1) (b : ByteArray) (s : Int) (l : List Int) {A : Option Addr} {c : Nat} (w : World) :
    Calls Try.prog 13 #[.agg #[.int .i64 a, .string b, .int .i64 s, .slice A l.length c]] w fun e' w' => e' = .returned (.bool (dcB ⟨a, b, s, l⟩)) ∧ Below w.heap.size w w' := by
  have gout : ∀ {o : Obj} (g : G (w.alloc o)), Below w.heap.size w g.W := fun g => ((Below.refl _ _).alloc (Nat.le_refl _) _).trans (g.below.mono (by simp))
  have h0 : dcB ⟨a, b, s, l⟩ = false := by simp [dcB]; omega
  rw [h0]
  clear h0
  go_enter Try.func13, Try.ntmps13
  go_upto_region 1 with (fail)
  refine wp_grown ?_
  intro gg
  go_wp2_with fail
  go_ret
  exact ⟨ret_bool2 (by simp), gout _⟩
set_option maxHeartbeats 1000000 in
set_option maxRecDepth 100000 in
theorem refDeclForm_kgt (a : Int) (h1 : ¬ a < 1) (h2 : a > 5) (b : ByteArray) (s : Int) (l : List Int) {A : Option Addr} {c : Nat} (w : World) :
    Calls Try.prog 13 #[.agg #[.int .i64 a, .string b, .int .i64 s, .slice A l.length c]] w fun e' w' => e' = .returned (.bool (dcB ⟨a, b, s, l⟩)) ∧ Below w.heap.size w w' := by
  have gout : ∀ {o : Obj} (g : G (w.alloc o)), Below w.heap.size w g.W := fun g => ((Below.refl _ _).alloc (Nat.le_refl _) _).trans (g.below.mono (by simp))
  have h0 : dcB ⟨a, b, s, l⟩ = false := by simp [dcB]; omega
  rw [h0]
  clear h0
  go_enter Try.func13, Try.ntmps13
  go_upto_region 1 with (fail)
  refine wp_grown ?_
  intro gg
  go_wp2_with fail
  go_ret
  exact ⟨ret_bool2 (by simp), gout _⟩
set_option maxHeartbeats 1000000 in
set_option maxRecDepth 100000 in
theorem refDeclForm_k1 (b : ByteArray) (s : Int) (l : List Int) {A : Option Addr} {c : Nat} (w : World) :
    Calls Try.prog 13 #[.agg #[.int .i64 1, .string b, .int .i64 s, .slice A l.length c]] w fun e' w' => e' = .returned (.bool (dcB ⟨1, b, s, l⟩)) ∧ Below w.heap.size w w' := by
  have gout : ∀ {o : Obj} (g : G (w.alloc o)), Below w.heap.size w g.W := fun g => ((Below.refl _ _).alloc (Nat.le_refl _) _).trans (g.below.mono (by simp))
  go_enter Try.func13, Try.ntmps13
  go_upto_region 1 with (fail)
  refine wp_grown ?_
  intro gg
  go_wp2_with fail
  rcases bcases (namedB b) with h1 | h1
  all_goals
    refine (call_of (g := gg) (refName_v h1 gg.W)).mono ?_
    rintro _ _ ⟨rfl, gg, rfl⟩
  · rcases Int.lt_or_le s 0 with h2 | h2
    · have h3 : ¬ 0 ≤ s := by omega
      go_wp2_with fail
      go_ret
      exact ⟨ret_bool2 (by simp [dcB, h1, h3] <;> (intros; omega)), gout _⟩
    · have h3 : ¬ s < 0 := by omega
      rcases l with _ | ⟨y, r⟩
      all_goals
        (try have h6 : ((r.length : Int) + 1 == 0) = false := by simp; omega)
        go_wp2_with fail
        go_ret
        exact ⟨ret_bool2 (by simp [dcB, h1, h2]; try omega), gout _⟩
  · go_wp2_with fail
    go_ret
    exact ⟨ret_bool2 (by simp [dcB, h1]), gout _⟩
set_option maxHeartbeats 1000000 in
set_option maxRecDepth 100000 in
theorem refDeclForm_k2 (b : ByteArray) (s : Int) (l : List Int) {A : Option Addr} {c : Nat} (w : World) :
    Calls Try.prog 13 #[.agg #[.int .i64 2, .string b, .int .i64 s, .slice A l.length c]] w fun e' w' => e' = .returned (.bool (dcB ⟨2, b, s, l⟩)) ∧ Below w.heap.size w w' := by
  have gout : ∀ {o : Obj} (g : G (w.alloc o)), Below w.heap.size w g.W := fun g => ((Below.refl _ _).alloc (Nat.le_refl _) _).trans (g.below.mono (by simp))
  go_enter Try.func13, Try.ntmps13
  go_upto_region 1 with (fail)
  refine wp_grown ?_
  intro gg
  go_wp2_with fail
  rcases bcases (namedB b) with h1 | h1
  all_goals
    refine (call_of (g := gg) (refName_v h1 gg.W)).mono ?_
    rintro _ _ ⟨rfl, gg, rfl⟩
  · rcases Int.lt_or_le s 0 with h2 | h2
    · have h3 : ¬ 0 ≤ s := by omega
      go_wp2_with fail
      go_ret
      exact ⟨ret_bool2 (by simp [dcB, h1, h3] <;> (intros; omega)), gout _⟩
    · have h3 : ¬ s < 0 := by omega
      rcases l with _ | ⟨y, r⟩
      all_goals
        (try have h6 : ((r.length : Int) + 1 == 0) = false := by simp; omega)
        go_wp2_with fail
        go_ret
        exact ⟨ret_bool2 (by simp [dcB, h1, h2]; try omega), gout _⟩
  · go_wp2_with fail
    go_ret
    exact ⟨ret_bool2 (by simp [dcB, h1]), gout _⟩
set_option maxHeartbeats 1000000 in
set_option maxRecDepth 100000 in
theorem refDeclForm_k3 (b : ByteArray) (s : Int) (l : List Int) {A : Option Addr} {c : Nat} (w : World) :
    Calls Try.prog 13 #[.agg #[.int .i64 3, .string b, .int .i64 s, .slice A l.length c]] w fun e' w' => e' = .returned (.bool (dcB ⟨3, b, s, l⟩)) ∧ Below w.heap.size w w' := by
  have gout : ∀ {o : Obj} (g : G (w.alloc o)), Below w.heap.size w g.W := fun g => ((Below.refl _ _).alloc (Nat.le_refl _) _).trans (g.below.mono (by simp))
  go_enter Try.func13, Try.ntmps13
  go_upto_region 1 with (fail)
  refine wp_grown ?_
  intro gg
  go_wp2_with fail
  rcases bcases (namedB b) with h1 | h1
  all_goals
    refine (call_of (g := gg) (refName_v h1 gg.W)).mono ?_
    rintro _ _ ⟨rfl, gg, rfl⟩
  · rcases Int.lt_or_le s 0 with h2 | h2
    · have h3 : ¬ 0 ≤ s := by omega
      go_wp2_with fail
      go_ret
      exact ⟨ret_bool2 (by simp [dcB, h1, h3] <;> (intros; omega)), gout _⟩
    · have h3 : ¬ s < 0 := by omega
      rcases Int.lt_or_le 0 s with h4 | h4
      · rcases l with _ | ⟨y, r⟩
        all_goals
          go_wp2_with fail
          go_ret
          exact ⟨ret_bool2 (by simp [dcB, h1, h2, h4]), gout _⟩
      · have h5 : ¬ 0 < s := by omega
        rcases l with _ | ⟨y, r⟩
        all_goals
          go_wp2_with fail
          go_ret
          exact ⟨ret_bool2 (by simp [dcB, h1, h2, h5]), gout _⟩
  · go_wp2_with fail
    go_ret
    exact ⟨ret_bool2 (by simp [dcB, h1]), gout _⟩
set_option maxHeartbeats 1000000 in
set_option maxRecDepth 100000 in
theorem refDeclForm_k4 (b : ByteArray) (s : Int) (l : List Int) {A : Option Addr} {c : Nat} (w : World) :
    Calls Try.prog 13 #[.agg #[.int .i64 4, .string b, .int .i64 s, .slice A l.length c]] w fun e' w' => e' = .returned (.bool (dcB ⟨4, b, s, l⟩)) ∧ Below w.heap.size w w' := by
  have gout : ∀ {o : Obj} (g : G (w.alloc o)), Below w.heap.size w g.W := fun g => ((Below.refl _ _).alloc (Nat.le_refl _) _).trans (g.below.mono (by simp))
  go_enter Try.func13, Try.ntmps13
  go_upto_region 1 with (fail)
  refine wp_grown ?_
  intro gg
  go_wp2_with fail
  rcases bcases (namedB b) with h1 | h1
  all_goals
    refine (call_of (g := gg) (refName_v h1 gg.W)).mono ?_
    rintro _ _ ⟨rfl, gg, rfl⟩
  · rcases Int.lt_or_le s 0 with h2 | h2
    · have h3 : ¬ 0 ≤ s := by omega
      go_wp2_with fail
      go_ret
      exact ⟨ret_bool2 (by simp [dcB, h1, h3] <;> (intros; omega)), gout _⟩
    · have h3 : ¬ s < 0 := by omega
      rcases l with _ | ⟨y, r⟩
      all_goals
        (try have h6 : ((r.length : Int) + 1 == 0) = false := by simp; omega)
        go_wp2_with fail
        go_ret
        exact ⟨ret_bool2 (by simp [dcB, h1, h2]; try omega), gout _⟩
  · go_wp2_with fail
    go_ret
    exact ⟨ret_bool2 (by simp [dcB, h1]), gout _⟩
set_option maxHeartbeats 1000000 in
set_option maxRecDepth 100000 in
theorem refDeclForm_k5 (b : ByteArray) (s : Int) (l : List Int) {A : Option Addr} {c : Nat} (w : World) :
    Calls Try.prog 13 #[.agg #[.int .i64 5, .string b, .int .i64 s, .slice A l.length c]] w fun e' w' => e' = .returned (.bool (dcB ⟨5, b, s, l⟩)) ∧ Below w.heap.size w w' := by
  have gout : ∀ {o : Obj} (g : G (w.alloc o)), Below w.heap.size w g.W := fun g => ((Below.refl _ _).alloc (Nat.le_refl _) _).trans (g.below.mono (by simp))
  go_enter Try.func13, Try.ntmps13
  go_upto_region 1 with (fail)
  refine wp_grown ?_
  intro gg
  go_wp2_with fail
  rcases bcases (namedB b) with h1 | h1
  all_goals
    refine (call_of (g := gg) (refName_v h1 gg.W)).mono ?_
    rintro _ _ ⟨rfl, gg, rfl⟩
  · rcases Int.lt_or_le s 0 with h2 | h2
    · have h3 : ¬ 0 ≤ s := by omega
      go_wp2_with fail
      go_ret
      exact ⟨ret_bool2 (by simp [dcB, h1, h3] <;> (intros; omega)), gout _⟩
    · have h3 : ¬ s < 0 := by omega
      rcases l with _ | ⟨y, r⟩
      all_goals
        (try have h6 : ((r.length : Int) + 1 == 0) = false := by simp; omega)
        go_wp2_with fail
        go_ret
        exact ⟨ret_bool2 (by simp [dcB, h1, h2]; try omega), gout _⟩
  · go_wp2_with fail
    go_ret
    exact ⟨ret_bool2 (by simp [dcB, h1]), gout _⟩
theorem refDeclForm_calls (x : S31) (A : Option Addr) (c : Nat) (w : World) : Calls Try.prog 13 #[.agg #[.int .i64 x.f0, .string x.f1, .int .i64 x.f2, .slice A x.f3.length c]] w fun e' w' => e' = .returned (.bool (dcB x)) ∧ Below w.heap.size w w' := by
  obtain ⟨a, b, s, l⟩ := x
  rcases kinds5 a with h | ⟨h, h'⟩ | rfl | rfl | rfl | rfl | rfl
  · exact refDeclForm_klt a h b s l w
  · exact refDeclForm_kgt a h h' b s l w
  · exact refDeclForm_k1 b s l w
  · exact refDeclForm_k2 b s l w
  · exact refDeclForm_k3 b s l w
  · exact refDeclForm_k4 b s l w
  · exact refDeclForm_k5 b s l w
end Go.Proofs.Ytnacekhfebjdfaa.L
