/- Sections that print.sh wrote for single laws of this seat, laid together by merge.py into one namespace. -/
import Derived.Test.YtklnafmoihkbhaaCa
import Derived.Test.YtklnafmoihkbhaaCb
namespace Go.Proofs.Ytklnafmoihkbhaa.C
open Go.RowKit Go.Proofs.YtklnafmoihkbhaaW.PrintWords Go.Proofs.YtklnafmoihkbhaaW.PrintLast Go.Proofs.YtklnafmoihkbhaaW.PrintMore
attribute [local go_sem] max2_int min2_int max_two min_two max_three min_three max_four min_four
set_option linter.unusedVariables false
set_option linter.unusedSimpArgs false

/-! ### bits_Un: function 21 -/
def bits_Un.j0 : Nat → Int → Int → Int → Bool → Option (Int × Int)
  | 0, _, _, _, _ => none
  | k + 1, x0, x1, x2, x13 => if x13 = true then (some (0, 73)) else ((bits_Right.f x1).bind fun t101 => (if t101 = true then (if x0 = 15 then ((bits_Trim.f x1 (Go.bits .xor .u64 18446744073709551615 x2)).bind fun t102 => (some (t102, 0))) else ((bits_Trim.f x1 (IntKind.u64.wrap (-x2))).bind fun t103 => (some (t103, 0)))) else (some (0, 5))))
def bits_Un.f (k : Nat) (a0 : Int) (a1 : Int) (a2 : Int) : Option (Int × Int) := if a0 = 15 then (bits_Un.j0 k a0 a1 a2 false) else (bits_Un.j0 k a0 a1 a2 (a0 != 16))
theorem bits_Un.mono_l : ∀ k, (∀ y0 y1 y2 y3, LeO (bits_Un.j0 k y0 y1 y2 y3) (bits_Un.j0 (k + 1) y0 y1 y2 y3))
  | 0 => fun _ _ _ _ r h => by simp [bits_Un.j0] at h
  | k + 1 => by
    have ih0 := bits_Un.mono_l k
    · intro y0 y1 y2 y3
      unfold bits_Un.j0
      repeat' first
      | (with_reducible exact ih0 _ _ _ _)
      | (with_reducible exact LeO.refl _)
      | (with_reducible exact LeO.none _)
      | (with_reducible refine LeO.ite ?_ ?_)
      | (with_reducible refine LeO.bind ?_ (fun _ => ?_))
      | exact ih0 _ _ _ _
      | exact LeO.none _
      | refine LeO.ite ?_ ?_
      | refine LeO.bind ?_ (fun _ => ?_)
theorem bits_Un.mono : ∀ a0 a1 a2 k, LeO (bits_Un.f k a0 a1 a2) (bits_Un.f (k + 1) a0 a1 a2) := by
  intro a0 a1 a2 k
  have ih0 := bits_Un.mono_l k
  unfold bits_Un.f
  repeat' first
      | (with_reducible exact ih0 _ _ _ _)
      | (with_reducible exact LeO.refl _)
      | (with_reducible exact LeO.none _)
      | (with_reducible refine LeO.ite ?_ ?_)
      | (with_reducible refine LeO.bind ?_ (fun _ => ?_))
      | exact ih0 _ _ _ _
      | exact LeO.none _
      | refine LeO.ite ?_ ?_
      | refine LeO.bind ?_ (fun _ => ?_)
set_option maxHeartbeats 8000000 in
set_option maxRecDepth 100000 in
theorem bits_Un.calls (k : Nat) (a0 : Int) (a1 : Int) (a2 : Int) (r1 : Int) (r2 : Int) (w : World) (h : bits_Un.f k a0 a1 a2 = some (r1, r2)) :
    Calls Try.prog 21 #[.int .i64 a0, .int .i64 a1, .int .u64 a2] w fun e w' => e = .returned (.tuple #[.int .u64 r1, .int .i64 r2]) ∧ Drawn0 w w' := by
  have H : (if a0 = 15 then (bits_Un.j0 k a0 a1 a2 false) else (bits_Un.j0 k a0 a1 a2 (a0 != 16))) = some (r1, r2) := h
  clear h
  have HC4 := Aside0.mk H
  clear H
  go_enter Try.func21, Try.ntmps21
  go_upto_region 1 with (fail)
  go_cut [13] (fun v13 wc => ∃ (kq : Nat) (x13_3 : Bool), v13 = .bool x13_3 ∧ Aside0 (bits_Un.j0 kq a0 a1 a2 x13_3 = some (r1, r2)) ∧ Aside0 (kq ≤ k) ∧ Drawn0 w wc)
  case first =>
    have H := HC4.out
    clear HC4
    by_cases c5 : a0 = 15
    · rw [if_pos c5] at H
      have c5b0 : (a0 == 15) = true := beq_iff_eq.mpr c5
      have c5b1 : (a0 != 15) = false := bne_eq_false_iff_eq.mpr c5
      clear c5
      (first | rw [c5b0] | (simp only [i64_w, i32_w]; rw [c5b0]) | skip)
      have H' := Aside0.mk H
      clear H
      go_wp2
      go_meet
      case rel => exact ⟨_, (false), (by first | rfl | (simp; done) | (simp [*]; done)), H', ⟨by first | omega | exact Nat.le_refl _⟩, by repeat (first | exact Drawn0.refl _ | apply Drawn0.step)⟩
    · rw [if_neg c5] at H
      have c5b0 : (a0 == 15) = false := beq_eq_false_iff_ne.mpr c5
      have c5b1 : (a0 != 15) = true := bne_iff_ne.mpr c5
      (first | rw [c5b0] | (simp only [i64_w, i32_w]; rw [c5b0]) | skip)
      have H' := Aside0.mk H
      clear H
      go_wp2
      go_meet
      case rel => exact ⟨_, ((a0 != 16)), (by first | rfl | (simp; done) | (simp [*]; done)), H', ⟨by first | omega | exact Nat.le_refl _⟩, by repeat (first | exact Drawn0.refl _ | apply Drawn0.step)⟩
  case rest =>
    clear HC4
    try clear c2
    try clear p2
    try clear c5
    try clear c5b0
    try clear c5b1
    obtain ⟨kq, x13_3, rfl, HA, HJ3, ⟨mc3, rfl⟩⟩ := hcut
    cases kq with
    | zero => exact absurd HA.out (by simp [bits_Un.j0])
    | succ kj3 =>
      have H := HA.out
      clear HA
      simp only [bits_Un.j0] at H
      by_cases c6 : x13_3 = true
      · subst c6
        have H1 : (some (0, 73)) = some (r1, r2) := by rw [if_pos rfl] at H; exact H
        clear H
        have H := H1
        clear H1
        simp only [Option.some.injEq, Prod.mk.injEq] at H
        obtain ⟨rfl, rfl⟩ := H
        go_wp2
        go_ret2
        exact ⟨by first | rfl | (simp; done) | (simp [*]; done), by repeat (first | exact Drawn0.refl _ | apply Drawn0.step)⟩
      · replace c6 := Bool.eq_false_iff.mpr c6
        subst c6
        have H1 : ((bits_Right.f a1).bind fun t101 => (if t101 = true then (if a0 = 15 then ((bits_Trim.f a1 (Go.bits .xor .u64 18446744073709551615 a2)).bind fun t102 => (some (t102, 0))) else ((bits_Trim.f a1 (IntKind.u64.wrap (-a2))).bind fun t103 => (some (t103, 0)))) else (some (0, 5)))) = some (r1, r2) := by rw [if_neg (show ¬ (false = true) by decide)] at H; exact H
        clear H
        have H := H1
        clear H1
        replace H := Option.bind_eq_some_iff.mp H
        obtain ⟨t101, A70, H⟩ := H
        replace H : (if t101 = true then (if a0 = 15 then ((bits_Trim.f a1 (Go.bits .xor .u64 18446744073709551615 a2)).bind fun t102 => (some (t102, 0))) else ((bits_Trim.f a1 (IntKind.u64.wrap (-a2))).bind fun t103 => (some (t103, 0)))) else (some (0, 5))) = some (r1, r2) := H
        have A7 := Aside0.mk A70
        clear A70
        by_cases c8 : t101 = true
        · subst c8
          have H1 : (if a0 = 15 then ((bits_Trim.f a1 (Go.bits .xor .u64 18446744073709551615 a2)).bind fun t102 => (some (t102, 0))) else ((bits_Trim.f a1 (IntKind.u64.wrap (-a2))).bind fun t103 => (some (t103, 0)))) = some (r1, r2) := by rw [if_pos rfl] at H; exact H
          clear H
          have H := H1
          clear H1
          by_cases c9 : a0 = 15
          · rw [if_pos c9] at H
            have c9b0 : (a0 == 15) = true := beq_iff_eq.mpr c9
            have c9b1 : (a0 != 15) = false := bne_eq_false_iff_eq.mpr c9
            clear c9
            replace H := Option.bind_eq_some_iff.mp H
            obtain ⟨t102, A100, H⟩ := H
            replace H : (some (t102, 0)) = some (r1, r2) := H
            have A10 := Aside0.mk A100
            clear A100
            simp only [Option.some.injEq, Prod.mk.injEq] at H
            obtain ⟨rfl, rfl⟩ := H
            go_wp2_with (first | ((with_reducible refine gate_callee (f := 15) rfl ?_); refine goesL_ (some 15) rfl rfl Try.func15 (by kernel_rfl) rfl #[.int .i64 a1] rfl (by (try simp only [List.map_toArray, List.map_cons, List.map_nil]); first | done | rfl | (simp only [List.length_drop, List.length_take]; rfl)) ?_; (with_reducible refine (bits_Right.calls a1 true _ A7.out).mono ?_); rintro e w' ⟨rfl, ⟨nd, rfl⟩⟩; refine ⟨_, rfl, ?_⟩) | ((with_reducible refine gate_callee (f := 17) rfl ?_); refine goesL_ (some 22) rfl rfl Try.func17 (by kernel_rfl) rfl #[.int .i64 a1, .int .u64 (Go.bits .xor .u64 18446744073709551615 a2)] rfl (by (try simp only [List.map_toArray, List.map_cons, List.map_nil]); first | done | rfl | (simp only [List.length_drop, List.length_take]; rfl)) ?_; (with_reducible refine (bits_Trim.calls a1 (Go.bits .xor .u64 18446744073709551615 a2) t102 _ A10.out).mono ?_); rintro e w' ⟨rfl, ⟨nd, rfl⟩⟩; refine ⟨_, rfl, ?_⟩))
            go_ret2
            exact ⟨by first | rfl | (simp; done) | (simp [*]; done), by repeat (first | exact Drawn0.refl _ | apply Drawn0.step)⟩
          · rw [if_neg c9] at H
            have c9b0 : (a0 == 15) = false := beq_eq_false_iff_ne.mpr c9
            have c9b1 : (a0 != 15) = true := bne_iff_ne.mpr c9
            replace H := Option.bind_eq_some_iff.mp H
            obtain ⟨t103, A110, H⟩ := H
            replace H : (some (t103, 0)) = some (r1, r2) := H
            have A11 := Aside0.mk A110
            clear A110
            simp only [Option.some.injEq, Prod.mk.injEq] at H
            obtain ⟨rfl, rfl⟩ := H
            go_wp2_with (first | ((with_reducible refine gate_callee (f := 15) rfl ?_); refine goesL_ (some 15) rfl rfl Try.func15 (by kernel_rfl) rfl #[.int .i64 a1] rfl (by (try simp only [List.map_toArray, List.map_cons, List.map_nil]); first | done | rfl | (simp only [List.length_drop, List.length_take]; rfl)) ?_; (with_reducible refine (bits_Right.calls a1 true _ A7.out).mono ?_); rintro e w' ⟨rfl, ⟨nd, rfl⟩⟩; refine ⟨_, rfl, ?_⟩) | ((with_reducible refine gate_callee (f := 17) rfl ?_); refine goesL_ (some 26) rfl rfl Try.func17 (by kernel_rfl) rfl #[.int .i64 a1, .int .u64 (IntKind.u64.wrap (-a2))] rfl (by (try simp only [List.map_toArray, List.map_cons, List.map_nil]); first | done | rfl | (simp only [List.length_drop, List.length_take]; rfl)) ?_; (with_reducible refine (bits_Trim.calls a1 (IntKind.u64.wrap (-a2)) t103 _ A11.out).mono ?_); rintro e w' ⟨rfl, ⟨nd, rfl⟩⟩; refine ⟨_, rfl, ?_⟩))
            go_ret2
            exact ⟨by first | rfl | (simp; done) | (simp [*]; done), by repeat (first | exact Drawn0.refl _ | apply Drawn0.step)⟩
        · replace c8 := Bool.eq_false_iff.mpr c8
          subst c8
          have H1 : (some (0, 5)) = some (r1, r2) := by rw [if_neg (show ¬ (false = true) by decide)] at H; exact H
          clear H
          have H := H1
          clear H1
          simp only [Option.some.injEq, Prod.mk.injEq] at H
          obtain ⟨rfl, rfl⟩ := H
          go_wp2_with (first | ((with_reducible refine gate_callee (f := 15) rfl ?_); refine goesL_ (some 15) rfl rfl Try.func15 (by kernel_rfl) rfl #[.int .i64 a1] rfl (by (try simp only [List.map_toArray, List.map_cons, List.map_nil]); first | done | rfl | (simp only [List.length_drop, List.length_take]; rfl)) ?_; (with_reducible refine (bits_Right.calls a1 false _ A7.out).mono ?_); rintro e w' ⟨rfl, ⟨nd, rfl⟩⟩; refine ⟨_, rfl, ?_⟩))
          go_ret2
          exact ⟨by first | rfl | (simp; done) | (simp [*]; done), by repeat (first | exact Drawn0.refl _ | apply Drawn0.step)⟩

/-! ### cadenceref01_Un: function 22 -/
def cadenceref01_Un.j0 : Nat → Int → Int → Int → Bool → Option (Int × Int)
  | 0, _, _, _, _ => none
  | k + 1, x0, x1, x2, x13 => if x13 = true then (some (0, 73)) else ((cadenceref01_Right.f x1).bind fun t104 => (if t104 = true then (if x0 = 15 then ((cadenceref01_Trim.f x1 (Go.bits .xor .u64 18446744073709551615 x2)).bind fun t105 => (some (t105, 0))) else ((cadenceref01_Trim.f x1 (IntKind.u64.wrap (-x2))).bind fun t106 => (some (t106, 0)))) else (some (0, 5))))
def cadenceref01_Un.f (k : Nat) (a0 : Int) (a1 : Int) (a2 : Int) : Option (Int × Int) := if a0 = 15 then (cadenceref01_Un.j0 k a0 a1 a2 false) else (cadenceref01_Un.j0 k a0 a1 a2 (a0 != 16))
theorem cadenceref01_Un.mono_l : ∀ k, (∀ y0 y1 y2 y3, LeO (cadenceref01_Un.j0 k y0 y1 y2 y3) (cadenceref01_Un.j0 (k + 1) y0 y1 y2 y3))
  | 0 => fun _ _ _ _ r h => by simp [cadenceref01_Un.j0] at h
  | k + 1 => by
    have ih0 := cadenceref01_Un.mono_l k
    · intro y0 y1 y2 y3
      unfold cadenceref01_Un.j0
      repeat' first
      | (with_reducible exact ih0 _ _ _ _)
      | (with_reducible exact LeO.refl _)
      | (with_reducible exact LeO.none _)
      | (with_reducible refine LeO.ite ?_ ?_)
      | (with_reducible refine LeO.bind ?_ (fun _ => ?_))
      | exact ih0 _ _ _ _
      | exact LeO.none _
      | refine LeO.ite ?_ ?_
      | refine LeO.bind ?_ (fun _ => ?_)
theorem cadenceref01_Un.mono : ∀ a0 a1 a2 k, LeO (cadenceref01_Un.f k a0 a1 a2) (cadenceref01_Un.f (k + 1) a0 a1 a2) := by
  intro a0 a1 a2 k
  have ih0 := cadenceref01_Un.mono_l k
  unfold cadenceref01_Un.f
  repeat' first
      | (with_reducible exact ih0 _ _ _ _)
      | (with_reducible exact LeO.refl _)
      | (with_reducible exact LeO.none _)
      | (with_reducible refine LeO.ite ?_ ?_)
      | (with_reducible refine LeO.bind ?_ (fun _ => ?_))
      | exact ih0 _ _ _ _
      | exact LeO.none _
      | refine LeO.ite ?_ ?_
      | refine LeO.bind ?_ (fun _ => ?_)
set_option maxHeartbeats 8000000 in
set_option maxRecDepth 100000 in
theorem cadenceref01_Un.calls (k : Nat) (a0 : Int) (a1 : Int) (a2 : Int) (r1 : Int) (r2 : Int) (w : World) (h : cadenceref01_Un.f k a0 a1 a2 = some (r1, r2)) :
    Calls Try.prog 22 #[.int .i64 a0, .int .i64 a1, .int .u64 a2] w fun e w' => e = .returned (.tuple #[.int .u64 r1, .int .i64 r2]) ∧ Drawn0 w w' := by
  have H : (if a0 = 15 then (cadenceref01_Un.j0 k a0 a1 a2 false) else (cadenceref01_Un.j0 k a0 a1 a2 (a0 != 16))) = some (r1, r2) := h
  clear h
  have HC4 := Aside0.mk H
  clear H
  go_enter Try.func22, Try.ntmps22
  go_upto_region 1 with (fail)
  go_cut [13] (fun v13 wc => ∃ (kq : Nat) (x13_3 : Bool), v13 = .bool x13_3 ∧ Aside0 (cadenceref01_Un.j0 kq a0 a1 a2 x13_3 = some (r1, r2)) ∧ Aside0 (kq ≤ k) ∧ Drawn0 w wc)
  case first =>
    have H := HC4.out
    clear HC4
    by_cases c5 : a0 = 15
    · rw [if_pos c5] at H
      have c5b0 : (a0 == 15) = true := beq_iff_eq.mpr c5
      have c5b1 : (a0 != 15) = false := bne_eq_false_iff_eq.mpr c5
      clear c5
      (first | rw [c5b0] | (simp only [i64_w, i32_w]; rw [c5b0]) | skip)
      have H' := Aside0.mk H
      clear H
      go_wp2
      go_meet
      case rel => exact ⟨_, (false), (by first | rfl | (simp; done) | (simp [*]; done)), H', ⟨by first | omega | exact Nat.le_refl _⟩, by repeat (first | exact Drawn0.refl _ | apply Drawn0.step)⟩
    · rw [if_neg c5] at H
      have c5b0 : (a0 == 15) = false := beq_eq_false_iff_ne.mpr c5
      have c5b1 : (a0 != 15) = true := bne_iff_ne.mpr c5
      (first | rw [c5b0] | (simp only [i64_w, i32_w]; rw [c5b0]) | skip)
      have H' := Aside0.mk H
      clear H
      go_wp2
      go_meet
      case rel => exact ⟨_, ((a0 != 16)), (by first | rfl | (simp; done) | (simp [*]; done)), H', ⟨by first | omega | exact Nat.le_refl _⟩, by repeat (first | exact Drawn0.refl _ | apply Drawn0.step)⟩
  case rest =>
    clear HC4
    try clear c2
    try clear p2
    try clear c5
    try clear c5b0
    try clear c5b1
    obtain ⟨kq, x13_3, rfl, HA, HJ3, ⟨mc3, rfl⟩⟩ := hcut
    cases kq with
    | zero => exact absurd HA.out (by simp [cadenceref01_Un.j0])
    | succ kj3 =>
      have H := HA.out
      clear HA
      simp only [cadenceref01_Un.j0] at H
      by_cases c6 : x13_3 = true
      · subst c6
        have H1 : (some (0, 73)) = some (r1, r2) := by rw [if_pos rfl] at H; exact H
        clear H
        have H := H1
        clear H1
        simp only [Option.some.injEq, Prod.mk.injEq] at H
        obtain ⟨rfl, rfl⟩ := H
        go_wp2
        go_ret2
        exact ⟨by first | rfl | (simp; done) | (simp [*]; done), by repeat (first | exact Drawn0.refl _ | apply Drawn0.step)⟩
      · replace c6 := Bool.eq_false_iff.mpr c6
        subst c6
        have H1 : ((cadenceref01_Right.f a1).bind fun t104 => (if t104 = true then (if a0 = 15 then ((cadenceref01_Trim.f a1 (Go.bits .xor .u64 18446744073709551615 a2)).bind fun t105 => (some (t105, 0))) else ((cadenceref01_Trim.f a1 (IntKind.u64.wrap (-a2))).bind fun t106 => (some (t106, 0)))) else (some (0, 5)))) = some (r1, r2) := by rw [if_neg (show ¬ (false = true) by decide)] at H; exact H
        clear H
        have H := H1
        clear H1
        replace H := Option.bind_eq_some_iff.mp H
        obtain ⟨t104, A70, H⟩ := H
        replace H : (if t104 = true then (if a0 = 15 then ((cadenceref01_Trim.f a1 (Go.bits .xor .u64 18446744073709551615 a2)).bind fun t105 => (some (t105, 0))) else ((cadenceref01_Trim.f a1 (IntKind.u64.wrap (-a2))).bind fun t106 => (some (t106, 0)))) else (some (0, 5))) = some (r1, r2) := H
        have A7 := Aside0.mk A70
        clear A70
        by_cases c8 : t104 = true
        · subst c8
          have H1 : (if a0 = 15 then ((cadenceref01_Trim.f a1 (Go.bits .xor .u64 18446744073709551615 a2)).bind fun t105 => (some (t105, 0))) else ((cadenceref01_Trim.f a1 (IntKind.u64.wrap (-a2))).bind fun t106 => (some (t106, 0)))) = some (r1, r2) := by rw [if_pos rfl] at H; exact H
          clear H
          have H := H1
          clear H1
          by_cases c9 : a0 = 15
          · rw [if_pos c9] at H
            have c9b0 : (a0 == 15) = true := beq_iff_eq.mpr c9
            have c9b1 : (a0 != 15) = false := bne_eq_false_iff_eq.mpr c9
            clear c9
            replace H := Option.bind_eq_some_iff.mp H
            obtain ⟨t105, A100, H⟩ := H
            replace H : (some (t105, 0)) = some (r1, r2) := H
            have A10 := Aside0.mk A100
            clear A100
            simp only [Option.some.injEq, Prod.mk.injEq] at H
            obtain ⟨rfl, rfl⟩ := H
            go_wp2_with (first | ((with_reducible refine gate_callee (f := 16) rfl ?_); refine goesL_ (some 15) rfl rfl Try.func16 (by kernel_rfl) rfl #[.int .i64 a1] rfl (by (try simp only [List.map_toArray, List.map_cons, List.map_nil]); first | done | rfl | (simp only [List.length_drop, List.length_take]; rfl)) ?_; (with_reducible refine (cadenceref01_Right.calls a1 true _ A7.out).mono ?_); rintro e w' ⟨rfl, ⟨nd, rfl⟩⟩; refine ⟨_, rfl, ?_⟩) | ((with_reducible refine gate_callee (f := 18) rfl ?_); refine goesL_ (some 22) rfl rfl Try.func18 (by kernel_rfl) rfl #[.int .i64 a1, .int .u64 (Go.bits .xor .u64 18446744073709551615 a2)] rfl (by (try simp only [List.map_toArray, List.map_cons, List.map_nil]); first | done | rfl | (simp only [List.length_drop, List.length_take]; rfl)) ?_; (with_reducible refine (cadenceref01_Trim.calls a1 (Go.bits .xor .u64 18446744073709551615 a2) t105 _ A10.out).mono ?_); rintro e w' ⟨rfl, ⟨nd, rfl⟩⟩; refine ⟨_, rfl, ?_⟩))
            go_ret2
            exact ⟨by first | rfl | (simp; done) | (simp [*]; done), by repeat (first | exact Drawn0.refl _ | apply Drawn0.step)⟩
          · rw [if_neg c9] at H
            have c9b0 : (a0 == 15) = false := beq_eq_false_iff_ne.mpr c9
            have c9b1 : (a0 != 15) = true := bne_iff_ne.mpr c9
            replace H := Option.bind_eq_some_iff.mp H
            obtain ⟨t106, A110, H⟩ := H
            replace H : (some (t106, 0)) = some (r1, r2) := H
            have A11 := Aside0.mk A110
            clear A110
            simp only [Option.some.injEq, Prod.mk.injEq] at H
            obtain ⟨rfl, rfl⟩ := H
            go_wp2_with (first | ((with_reducible refine gate_callee (f := 16) rfl ?_); refine goesL_ (some 15) rfl rfl Try.func16 (by kernel_rfl) rfl #[.int .i64 a1] rfl (by (try simp only [List.map_toArray, List.map_cons, List.map_nil]); first | done | rfl | (simp only [List.length_drop, List.length_take]; rfl)) ?_; (with_reducible refine (cadenceref01_Right.calls a1 true _ A7.out).mono ?_); rintro e w' ⟨rfl, ⟨nd, rfl⟩⟩; refine ⟨_, rfl, ?_⟩) | ((with_reducible refine gate_callee (f := 18) rfl ?_); refine goesL_ (some 26) rfl rfl Try.func18 (by kernel_rfl) rfl #[.int .i64 a1, .int .u64 (IntKind.u64.wrap (-a2))] rfl (by (try simp only [List.map_toArray, List.map_cons, List.map_nil]); first | done | rfl | (simp only [List.length_drop, List.length_take]; rfl)) ?_; (with_reducible refine (cadenceref01_Trim.calls a1 (IntKind.u64.wrap (-a2)) t106 _ A11.out).mono ?_); rintro e w' ⟨rfl, ⟨nd, rfl⟩⟩; refine ⟨_, rfl, ?_⟩))
            go_ret2
            exact ⟨by first | rfl | (simp; done) | (simp [*]; done), by repeat (first | exact Drawn0.refl _ | apply Drawn0.step)⟩
        · replace c8 := Bool.eq_false_iff.mpr c8
          subst c8
          have H1 : (some (0, 5)) = some (r1, r2) := by rw [if_neg (show ¬ (false = true) by decide)] at H; exact H
          clear H
          have H := H1
          clear H1
          simp only [Option.some.injEq, Prod.mk.injEq] at H
          obtain ⟨rfl, rfl⟩ := H
          go_wp2_with (first | ((with_reducible refine gate_callee (f := 16) rfl ?_); refine goesL_ (some 15) rfl rfl Try.func16 (by kernel_rfl) rfl #[.int .i64 a1] rfl (by (try simp only [List.map_toArray, List.map_cons, List.map_nil]); first | done | rfl | (simp only [List.length_drop, List.length_take]; rfl)) ?_; (with_reducible refine (cadenceref01_Right.calls a1 false _ A7.out).mono ?_); rintro e w' ⟨rfl, ⟨nd, rfl⟩⟩; refine ⟨_, rfl, ?_⟩))
          go_ret2
          exact ⟨by first | rfl | (simp; done) | (simp [*]; done), by repeat (first | exact Drawn0.refl _ | apply Drawn0.step)⟩

/-! ### cadencelaw01_two: function 34 -/
def cadencelaw01_two.f (k : Nat) (a0 : Int) (a1 : Int) (a2 : Int) (a3 : Int) : Option (Int) := (bits_Bin.f k a0 a1 a2 a3).bind fun bt135 => (if bt135.2 = 0 then (some bt135.1) else ((bits_Trim.f a1 (Go.bits .xor .u64 18446744073709551615 bt135.1)).bind fun t137 => (some (Go.bits .xor .u64 18446744073709551615 t137))))
theorem cadencelaw01_two.mono : ∀ a0 a1 a2 a3 k, LeO (cadencelaw01_two.f k a0 a1 a2 a3) (cadencelaw01_two.f (k + 1) a0 a1 a2 a3) := by
  intro a0 a1 a2 a3 k
  unfold cadencelaw01_two.f
  repeat' first
      | (with_reducible exact bits_Bin.mono _ _ _ _ _)
      | (with_reducible exact LeO.refl _)
      | (with_reducible exact LeO.none _)
      | (with_reducible refine LeO.ite ?_ ?_)
      | (with_reducible refine LeO.bind ?_ (fun _ => ?_))
      | exact bits_Bin.mono _ _ _ _ _
      | exact LeO.none _
      | refine LeO.ite ?_ ?_
      | refine LeO.bind ?_ (fun _ => ?_)
set_option maxHeartbeats 8000000 in
set_option maxRecDepth 100000 in
theorem cadencelaw01_two.calls (k : Nat) (a0 : Int) (a1 : Int) (a2 : Int) (a3 : Int) (r : Int) (w : World) (h : cadencelaw01_two.f k a0 a1 a2 a3 = some r) :
    Calls Try.prog 34 #[.int .i64 a0, .int .i64 a1, .int .u64 a2, .int .u64 a3] w fun e w' => e = .returned (.int .u64 r) ∧ Drawn0 w w' := by
  have H : ((bits_Bin.f k a0 a1 a2 a3).bind fun bt135 => (if bt135.2 = 0 then (some bt135.1) else ((bits_Trim.f a1 (Go.bits .xor .u64 18446744073709551615 bt135.1)).bind fun t137 => (some (Go.bits .xor .u64 18446744073709551615 t137))))) = some r := h
  clear h
  replace H := Option.bind_eq_some_iff.mp H
  obtain ⟨⟨t135, t136⟩, A50, H⟩ := H
  replace H : (if t136 = 0 then (some t135) else ((bits_Trim.f a1 (Go.bits .xor .u64 18446744073709551615 t135)).bind fun t137 => (some (Go.bits .xor .u64 18446744073709551615 t137)))) = some r := H
  have A5 := Aside0.mk A50
  clear A50
  by_cases c6 : t136 = 0
  · rw [if_pos c6] at H
    have c6b0 : (t136 == 0) = true := beq_iff_eq.mpr c6
    have c6b1 : (t136 != 0) = false := bne_eq_false_iff_eq.mpr c6
    clear c6
    obtain rfl := Option.some.inj H
    go_enter Try.func34, Try.ntmps34
    go_wp2_with (first | ((with_reducible refine gate_callee (f := 31) rfl ?_); refine goesL_ (some 16) rfl rfl Try.func31 (by kernel_rfl) rfl #[.int .i64 a0, .int .i64 a1, .int .u64 a2, .int .u64 a3] rfl (by (try simp only [List.map_toArray, List.map_cons, List.map_nil]); first | done | rfl | (simp only [List.length_drop, List.length_take]; rfl)) ?_; (with_reducible refine (bits_Bin.calls k a0 a1 a2 a3 t135 t136 _ A5.out).mono ?_); rintro e w' ⟨rfl, ⟨nd, rfl⟩⟩; refine ⟨_, rfl, ?_⟩))
    go_ret
    exact ⟨by first | rfl | (simp; done) | (simp [*]; done), by repeat (first | exact Drawn0.refl _ | apply Drawn0.step)⟩
  · rw [if_neg c6] at H
    have c6b0 : (t136 == 0) = false := beq_eq_false_iff_ne.mpr c6
    have c6b1 : (t136 != 0) = true := bne_iff_ne.mpr c6
    replace H := Option.bind_eq_some_iff.mp H
    obtain ⟨t137, A70, H⟩ := H
    replace H : (some (Go.bits .xor .u64 18446744073709551615 t137)) = some r := H
    have A7 := Aside0.mk A70
    clear A70
    obtain rfl := Option.some.inj H
    go_enter Try.func34, Try.ntmps34
    go_wp2_with (first | ((with_reducible refine gate_callee (f := 31) rfl ?_); refine goesL_ (some 16) rfl rfl Try.func31 (by kernel_rfl) rfl #[.int .i64 a0, .int .i64 a1, .int .u64 a2, .int .u64 a3] rfl (by (try simp only [List.map_toArray, List.map_cons, List.map_nil]); first | done | rfl | (simp only [List.length_drop, List.length_take]; rfl)) ?_; (with_reducible refine (bits_Bin.calls k a0 a1 a2 a3 t135 t136 _ A5.out).mono ?_); rintro e w' ⟨rfl, ⟨nd, rfl⟩⟩; refine ⟨_, rfl, ?_⟩) | ((with_reducible refine gate_callee (f := 17) rfl ?_); refine goesL_ (some 24) rfl rfl Try.func17 (by kernel_rfl) rfl #[.int .i64 a1, .int .u64 (Go.bits .xor .u64 18446744073709551615 t135)] rfl (by (try simp only [List.map_toArray, List.map_cons, List.map_nil]); first | done | rfl | (simp only [List.length_drop, List.length_take]; rfl)) ?_; (with_reducible refine (bits_Trim.calls a1 (Go.bits .xor .u64 18446744073709551615 t135) t137 _ A7.out).mono ?_); rintro e w' ⟨rfl, ⟨nd, rfl⟩⟩; refine ⟨_, rfl, ?_⟩))
    go_ret
    exact ⟨by first | rfl | (simp; done) | (simp [*]; done), by repeat (first | exact Drawn0.refl _ | apply Drawn0.step)⟩

/-! ### cadencelaw01_alive: function 33 -/
def cadencelaw01_alive.f (k : Nat)  : Option (Bool) := (bits_Bin.f k 24 8 7 0).bind fun bt129 => ((bits_Un.f k 16 8 1).bind fun bt131 => (if bt129.1 = 7 then (if bt129.2 = 0 then (if bt131.1 = 255 then (if bt131.2 = 0 then ((bits_Right.f 8).bind fun t133 => (if t133 = true then ((bits_Right.f 65).bind fun t134 => (some (!t134))) else (some false))) else (some false)) else (some false)) else (some false)) else (some false)))
theorem cadencelaw01_alive.mono : ∀ k, LeO (cadencelaw01_alive.f k ) (cadencelaw01_alive.f (k + 1) ) := by
  intro  k
  unfold cadencelaw01_alive.f
  repeat' first
      | (with_reducible exact bits_Bin.mono _ _ _ _ _)
      | (with_reducible exact bits_Un.mono _ _ _ _)
      | (with_reducible exact LeO.refl _)
      | (with_reducible exact LeO.none _)
      | (with_reducible refine LeO.ite ?_ ?_)
      | (with_reducible refine LeO.bind ?_ (fun _ => ?_))
      | exact bits_Bin.mono _ _ _ _ _
      | exact bits_Un.mono _ _ _ _
      | exact LeO.none _
      | refine LeO.ite ?_ ?_
      | refine LeO.bind ?_ (fun _ => ?_)
set_option maxHeartbeats 8000000 in
set_option maxRecDepth 100000 in
theorem cadencelaw01_alive.calls (k : Nat)  (r : Bool) (w : World) (h : cadencelaw01_alive.f k  = some r) :
    Calls Try.prog 33 #[] w fun e w' => e = .returned (.bool r) ∧ Drawn0 w w' := by
  have H : ((bits_Bin.f k 24 8 7 0).bind fun bt129 => ((bits_Un.f k 16 8 1).bind fun bt131 => (if bt129.1 = 7 then (if bt129.2 = 0 then (if bt131.1 = 255 then (if bt131.2 = 0 then ((bits_Right.f 8).bind fun t133 => (if t133 = true then ((bits_Right.f 65).bind fun t134 => (some (!t134))) else (some false))) else (some false)) else (some false)) else (some false)) else (some false)))) = some r := h
  clear h
  replace H := Option.bind_eq_some_iff.mp H
  obtain ⟨⟨t129, t130⟩, A10, H⟩ := H
  replace H : ((bits_Un.f k 16 8 1).bind fun bt131 => (if t129 = 7 then (if t130 = 0 then (if bt131.1 = 255 then (if bt131.2 = 0 then ((bits_Right.f 8).bind fun t133 => (if t133 = true then ((bits_Right.f 65).bind fun t134 => (some (!t134))) else (some false))) else (some false)) else (some false)) else (some false)) else (some false))) = some r := H
  have A1 := Aside0.mk A10
  clear A10
  replace H := Option.bind_eq_some_iff.mp H
  obtain ⟨⟨t131, t132⟩, A20, H⟩ := H
  replace H : (if t129 = 7 then (if t130 = 0 then (if t131 = 255 then (if t132 = 0 then ((bits_Right.f 8).bind fun t133 => (if t133 = true then ((bits_Right.f 65).bind fun t134 => (some (!t134))) else (some false))) else (some false)) else (some false)) else (some false)) else (some false)) = some r := H
  have A2 := Aside0.mk A20
  clear A20
  by_cases c3 : t129 = 7
  · rw [if_pos c3] at H
    have c3b0 : (t129 == 7) = true := beq_iff_eq.mpr c3
    have c3b1 : (t129 != 7) = false := bne_eq_false_iff_eq.mpr c3
    clear c3
    by_cases c4 : t130 = 0
    · rw [if_pos c4] at H
      have c4b0 : (t130 == 0) = true := beq_iff_eq.mpr c4
      have c4b1 : (t130 != 0) = false := bne_eq_false_iff_eq.mpr c4
      clear c4
      by_cases c5 : t131 = 255
      · rw [if_pos c5] at H
        have c5b0 : (t131 == 255) = true := beq_iff_eq.mpr c5
        have c5b1 : (t131 != 255) = false := bne_eq_false_iff_eq.mpr c5
        clear c5
        by_cases c6 : t132 = 0
        · rw [if_pos c6] at H
          have c6b0 : (t132 == 0) = true := beq_iff_eq.mpr c6
          have c6b1 : (t132 != 0) = false := bne_eq_false_iff_eq.mpr c6
          clear c6
          replace H := Option.bind_eq_some_iff.mp H
          obtain ⟨t133, A70, H⟩ := H
          replace H : (if t133 = true then ((bits_Right.f 65).bind fun t134 => (some (!t134))) else (some false)) = some r := H
          have A7 := Aside0.mk A70
          clear A70
          by_cases c8 : t133 = true
          · subst c8
            have H1 : ((bits_Right.f 65).bind fun t134 => (some (!t134))) = some r := by rw [if_pos rfl] at H; exact H
            clear H
            have H := H1
            clear H1
            replace H := Option.bind_eq_some_iff.mp H
            obtain ⟨t134, A90, H⟩ := H
            replace H : (some (!t134)) = some r := H
            have A9 := Aside0.mk A90
            clear A90
            obtain rfl := Option.some.inj H
            go_enter Try.func33, Try.ntmps33
            go_wp2_with (first | ((with_reducible refine gate_callee (f := 31) rfl ?_); refine goesL_ (some 6) rfl rfl Try.func31 (by kernel_rfl) rfl #[.int .i64 24, .int .i64 8, .int .u64 7, .int .u64 0] rfl (by (try simp only [List.map_toArray, List.map_cons, List.map_nil]); first | done | rfl | (simp only [List.length_drop, List.length_take]; rfl)) ?_; (with_reducible refine (bits_Bin.calls k 24 8 7 0 t129 t130 _ A1.out).mono ?_); rintro e w' ⟨rfl, ⟨nd, rfl⟩⟩; refine ⟨_, rfl, ?_⟩) | ((with_reducible refine gate_callee (f := 21) rfl ?_); refine goesL_ (some 10) rfl rfl Try.func21 (by kernel_rfl) rfl #[.int .i64 16, .int .i64 8, .int .u64 1] rfl (by (try simp only [List.map_toArray, List.map_cons, List.map_nil]); first | done | rfl | (simp only [List.length_drop, List.length_take]; rfl)) ?_; (with_reducible refine (bits_Un.calls k 16 8 1 t131 t132 _ A2.out).mono ?_); rintro e w' ⟨rfl, ⟨nd, rfl⟩⟩; refine ⟨_, rfl, ?_⟩) | (go_at_call 15; (with_reducible refine (bits_Right.calls 8 true _ A7.out).mono ?_); rintro e w' ⟨rfl, ⟨nd, rfl⟩⟩) | (go_at_call 15; (with_reducible refine (bits_Right.calls 65 t134 _ A9.out).mono ?_); rintro e w' ⟨rfl, ⟨nd, rfl⟩⟩))
            go_ret
            exact ⟨by first | rfl | (simp; done) | (simp [*]; done), by repeat (first | exact Drawn0.refl _ | apply Drawn0.step)⟩
          · replace c8 := Bool.eq_false_iff.mpr c8
            subst c8
            have H1 : (some false) = some r := by rw [if_neg (show ¬ (false = true) by decide)] at H; exact H
            clear H
            have H := H1
            clear H1
            obtain rfl := Option.some.inj H
            go_enter Try.func33, Try.ntmps33
            go_wp2_with (first | ((with_reducible refine gate_callee (f := 31) rfl ?_); refine goesL_ (some 6) rfl rfl Try.func31 (by kernel_rfl) rfl #[.int .i64 24, .int .i64 8, .int .u64 7, .int .u64 0] rfl (by (try simp only [List.map_toArray, List.map_cons, List.map_nil]); first | done | rfl | (simp only [List.length_drop, List.length_take]; rfl)) ?_; (with_reducible refine (bits_Bin.calls k 24 8 7 0 t129 t130 _ A1.out).mono ?_); rintro e w' ⟨rfl, ⟨nd, rfl⟩⟩; refine ⟨_, rfl, ?_⟩) | ((with_reducible refine gate_callee (f := 21) rfl ?_); refine goesL_ (some 10) rfl rfl Try.func21 (by kernel_rfl) rfl #[.int .i64 16, .int .i64 8, .int .u64 1] rfl (by (try simp only [List.map_toArray, List.map_cons, List.map_nil]); first | done | rfl | (simp only [List.length_drop, List.length_take]; rfl)) ?_; (with_reducible refine (bits_Un.calls k 16 8 1 t131 t132 _ A2.out).mono ?_); rintro e w' ⟨rfl, ⟨nd, rfl⟩⟩; refine ⟨_, rfl, ?_⟩) | (go_at_call 15; (with_reducible refine (bits_Right.calls 8 false _ A7.out).mono ?_); rintro e w' ⟨rfl, ⟨nd, rfl⟩⟩))
            go_ret
            exact ⟨by first | rfl | (simp; done) | (simp [*]; done), by repeat (first | exact Drawn0.refl _ | apply Drawn0.step)⟩
        · rw [if_neg c6] at H
          have c6b0 : (t132 == 0) = false := beq_eq_false_iff_ne.mpr c6
          have c6b1 : (t132 != 0) = true := bne_iff_ne.mpr c6
          obtain rfl := Option.some.inj H
          go_enter Try.func33, Try.ntmps33
          go_wp2_with (first | ((with_reducible refine gate_callee (f := 31) rfl ?_); refine goesL_ (some 6) rfl rfl Try.func31 (by kernel_rfl) rfl #[.int .i64 24, .int .i64 8, .int .u64 7, .int .u64 0] rfl (by (try simp only [List.map_toArray, List.map_cons, List.map_nil]); first | done | rfl | (simp only [List.length_drop, List.length_take]; rfl)) ?_; (with_reducible refine (bits_Bin.calls k 24 8 7 0 t129 t130 _ A1.out).mono ?_); rintro e w' ⟨rfl, ⟨nd, rfl⟩⟩; refine ⟨_, rfl, ?_⟩) | ((with_reducible refine gate_callee (f := 21) rfl ?_); refine goesL_ (some 10) rfl rfl Try.func21 (by kernel_rfl) rfl #[.int .i64 16, .int .i64 8, .int .u64 1] rfl (by (try simp only [List.map_toArray, List.map_cons, List.map_nil]); first | done | rfl | (simp only [List.length_drop, List.length_take]; rfl)) ?_; (with_reducible refine (bits_Un.calls k 16 8 1 t131 t132 _ A2.out).mono ?_); rintro e w' ⟨rfl, ⟨nd, rfl⟩⟩; refine ⟨_, rfl, ?_⟩))
          go_ret
          exact ⟨by first | rfl | (simp; done) | (simp [*]; done), by repeat (first | exact Drawn0.refl _ | apply Drawn0.step)⟩
      · rw [if_neg c5] at H
        have c5b0 : (t131 == 255) = false := beq_eq_false_iff_ne.mpr c5
        have c5b1 : (t131 != 255) = true := bne_iff_ne.mpr c5
        obtain rfl := Option.some.inj H
        go_enter Try.func33, Try.ntmps33
        go_wp2_with (first | ((with_reducible refine gate_callee (f := 31) rfl ?_); refine goesL_ (some 6) rfl rfl Try.func31 (by kernel_rfl) rfl #[.int .i64 24, .int .i64 8, .int .u64 7, .int .u64 0] rfl (by (try simp only [List.map_toArray, List.map_cons, List.map_nil]); first | done | rfl | (simp only [List.length_drop, List.length_take]; rfl)) ?_; (with_reducible refine (bits_Bin.calls k 24 8 7 0 t129 t130 _ A1.out).mono ?_); rintro e w' ⟨rfl, ⟨nd, rfl⟩⟩; refine ⟨_, rfl, ?_⟩) | ((with_reducible refine gate_callee (f := 21) rfl ?_); refine goesL_ (some 10) rfl rfl Try.func21 (by kernel_rfl) rfl #[.int .i64 16, .int .i64 8, .int .u64 1] rfl (by (try simp only [List.map_toArray, List.map_cons, List.map_nil]); first | done | rfl | (simp only [List.length_drop, List.length_take]; rfl)) ?_; (with_reducible refine (bits_Un.calls k 16 8 1 t131 t132 _ A2.out).mono ?_); rintro e w' ⟨rfl, ⟨nd, rfl⟩⟩; refine ⟨_, rfl, ?_⟩))
        go_ret
        exact ⟨by first | rfl | (simp; done) | (simp [*]; done), by repeat (first | exact Drawn0.refl _ | apply Drawn0.step)⟩
    · rw [if_neg c4] at H
      have c4b0 : (t130 == 0) = false := beq_eq_false_iff_ne.mpr c4
      have c4b1 : (t130 != 0) = true := bne_iff_ne.mpr c4
      obtain rfl := Option.some.inj H
      go_enter Try.func33, Try.ntmps33
      go_wp2_with (first | ((with_reducible refine gate_callee (f := 31) rfl ?_); refine goesL_ (some 6) rfl rfl Try.func31 (by kernel_rfl) rfl #[.int .i64 24, .int .i64 8, .int .u64 7, .int .u64 0] rfl (by (try simp only [List.map_toArray, List.map_cons, List.map_nil]); first | done | rfl | (simp only [List.length_drop, List.length_take]; rfl)) ?_; (with_reducible refine (bits_Bin.calls k 24 8 7 0 t129 t130 _ A1.out).mono ?_); rintro e w' ⟨rfl, ⟨nd, rfl⟩⟩; refine ⟨_, rfl, ?_⟩) | ((with_reducible refine gate_callee (f := 21) rfl ?_); refine goesL_ (some 10) rfl rfl Try.func21 (by kernel_rfl) rfl #[.int .i64 16, .int .i64 8, .int .u64 1] rfl (by (try simp only [List.map_toArray, List.map_cons, List.map_nil]); first | done | rfl | (simp only [List.length_drop, List.length_take]; rfl)) ?_; (with_reducible refine (bits_Un.calls k 16 8 1 t131 t132 _ A2.out).mono ?_); rintro e w' ⟨rfl, ⟨nd, rfl⟩⟩; refine ⟨_, rfl, ?_⟩))
      go_ret
      exact ⟨by first | rfl | (simp; done) | (simp [*]; done), by repeat (first | exact Drawn0.refl _ | apply Drawn0.step)⟩
  · rw [if_neg c3] at H
    have c3b0 : (t129 == 7) = false := beq_eq_false_iff_ne.mpr c3
    have c3b1 : (t129 != 7) = true := bne_iff_ne.mpr c3
    obtain rfl := Option.some.inj H
    go_enter Try.func33, Try.ntmps33
    go_wp2_with (first | ((with_reducible refine gate_callee (f := 31) rfl ?_); refine goesL_ (some 6) rfl rfl Try.func31 (by kernel_rfl) rfl #[.int .i64 24, .int .i64 8, .int .u64 7, .int .u64 0] rfl (by (try simp only [List.map_toArray, List.map_cons, List.map_nil]); first | done | rfl | (simp only [List.length_drop, List.length_take]; rfl)) ?_; (with_reducible refine (bits_Bin.calls k 24 8 7 0 t129 t130 _ A1.out).mono ?_); rintro e w' ⟨rfl, ⟨nd, rfl⟩⟩; refine ⟨_, rfl, ?_⟩) | ((with_reducible refine gate_callee (f := 21) rfl ?_); refine goesL_ (some 10) rfl rfl Try.func21 (by kernel_rfl) rfl #[.int .i64 16, .int .i64 8, .int .u64 1] rfl (by (try simp only [List.map_toArray, List.map_cons, List.map_nil]); first | done | rfl | (simp only [List.length_drop, List.length_take]; rfl)) ?_; (with_reducible refine (bits_Un.calls k 16 8 1 t131 t132 _ A2.out).mono ?_); rintro e w' ⟨rfl, ⟨nd, rfl⟩⟩; refine ⟨_, rfl, ?_⟩))
    go_ret
    exact ⟨by first | rfl | (simp; done) | (simp [*]; done), by repeat (first | exact Drawn0.refl _ | apply Drawn0.step)⟩

/-! ### cadencelaw01_BitsOne: function 5 -/
def cadencelaw01_BitsOne.f (k : Nat) (a0 : Int) (a1 : Int) (a2 : Int) : Option (Bool) := (bits_Un.f k a0 a1 a2).bind fun bt107 => ((cadenceref01_Un.f k a0 a1 a2).bind fun bt109 => (if bt107.1 = bt109.1 then (some (bt107.2 == bt109.2)) else (some false)))
theorem cadencelaw01_BitsOne.mono : ∀ a0 a1 a2 k, LeO (cadencelaw01_BitsOne.f k a0 a1 a2) (cadencelaw01_BitsOne.f (k + 1) a0 a1 a2) := by
  intro a0 a1 a2 k
  unfold cadencelaw01_BitsOne.f
  repeat' first
      | (with_reducible exact bits_Un.mono _ _ _ _)
      | (with_reducible exact cadenceref01_Un.mono _ _ _ _)
      | (with_reducible exact LeO.refl _)
      | (with_reducible exact LeO.none _)
      | (with_reducible refine LeO.ite ?_ ?_)
      | (with_reducible refine LeO.bind ?_ (fun _ => ?_))
      | exact bits_Un.mono _ _ _ _
      | exact cadenceref01_Un.mono _ _ _ _
      | exact LeO.none _
      | refine LeO.ite ?_ ?_
      | refine LeO.bind ?_ (fun _ => ?_)
set_option maxHeartbeats 8000000 in
set_option maxRecDepth 100000 in
theorem cadencelaw01_BitsOne.calls (k : Nat) (a0 : Int) (a1 : Int) (a2 : Int) (r : Bool) (w : World) (h : cadencelaw01_BitsOne.f k a0 a1 a2 = some r) :
    Calls Try.prog 5 #[.int .i64 a0, .int .i64 a1, .int .u64 a2] w fun e w' => e = .returned (.bool r) ∧ Drawn0 w w' := by
  have H : ((bits_Un.f k a0 a1 a2).bind fun bt107 => ((cadenceref01_Un.f k a0 a1 a2).bind fun bt109 => (if bt107.1 = bt109.1 then (some (bt107.2 == bt109.2)) else (some false)))) = some r := h
  clear h
  replace H := Option.bind_eq_some_iff.mp H
  obtain ⟨⟨t107, t108⟩, A40, H⟩ := H
  replace H : ((cadenceref01_Un.f k a0 a1 a2).bind fun bt109 => (if t107 = bt109.1 then (some (t108 == bt109.2)) else (some false))) = some r := H
  have A4 := Aside0.mk A40
  clear A40
  replace H := Option.bind_eq_some_iff.mp H
  obtain ⟨⟨t109, t110⟩, A50, H⟩ := H
  replace H : (if t107 = t109 then (some (t108 == t110)) else (some false)) = some r := H
  have A5 := Aside0.mk A50
  clear A50
  by_cases c6 : t107 = t109
  · rw [if_pos c6] at H
    have c6b0 : (t107 == t109) = true := beq_iff_eq.mpr c6
    have c6b1 : (t107 != t109) = false := bne_eq_false_iff_eq.mpr c6
    clear c6
    obtain rfl := Option.some.inj H
    go_enter Try.func5, Try.ntmps5
    go_wp2_with (first | ((with_reducible refine gate_callee (f := 21) rfl ?_); refine goesL_ (some 15) rfl rfl Try.func21 (by kernel_rfl) rfl #[.int .i64 a0, .int .i64 a1, .int .u64 a2] rfl (by (try simp only [List.map_toArray, List.map_cons, List.map_nil]); first | done | rfl | (simp only [List.length_drop, List.length_take]; rfl)) ?_; (with_reducible refine (bits_Un.calls k a0 a1 a2 t107 t108 _ A4.out).mono ?_); rintro e w' ⟨rfl, ⟨nd, rfl⟩⟩; refine ⟨_, rfl, ?_⟩) | ((with_reducible refine gate_callee (f := 22) rfl ?_); refine goesL_ (some 22) rfl rfl Try.func22 (by kernel_rfl) rfl #[.int .i64 a0, .int .i64 a1, .int .u64 a2] rfl (by (try simp only [List.map_toArray, List.map_cons, List.map_nil]); first | done | rfl | (simp only [List.length_drop, List.length_take]; rfl)) ?_; (with_reducible refine (cadenceref01_Un.calls k a0 a1 a2 t109 t110 _ A5.out).mono ?_); rintro e w' ⟨rfl, ⟨nd, rfl⟩⟩; refine ⟨_, rfl, ?_⟩))
    go_ret
    exact ⟨by first | rfl | (simp; done) | (simp [*]; done), by repeat (first | exact Drawn0.refl _ | apply Drawn0.step)⟩
  · rw [if_neg c6] at H
    have c6b0 : (t107 == t109) = false := beq_eq_false_iff_ne.mpr c6
    have c6b1 : (t107 != t109) = true := bne_iff_ne.mpr c6
    obtain rfl := Option.some.inj H
    go_enter Try.func5, Try.ntmps5
    go_wp2_with (first | ((with_reducible refine gate_callee (f := 21) rfl ?_); refine goesL_ (some 15) rfl rfl Try.func21 (by kernel_rfl) rfl #[.int .i64 a0, .int .i64 a1, .int .u64 a2] rfl (by (try simp only [List.map_toArray, List.map_cons, List.map_nil]); first | done | rfl | (simp only [List.length_drop, List.length_take]; rfl)) ?_; (with_reducible refine (bits_Un.calls k a0 a1 a2 t107 t108 _ A4.out).mono ?_); rintro e w' ⟨rfl, ⟨nd, rfl⟩⟩; refine ⟨_, rfl, ?_⟩) | ((with_reducible refine gate_callee (f := 22) rfl ?_); refine goesL_ (some 22) rfl rfl Try.func22 (by kernel_rfl) rfl #[.int .i64 a0, .int .i64 a1, .int .u64 a2] rfl (by (try simp only [List.map_toArray, List.map_cons, List.map_nil]); first | done | rfl | (simp only [List.length_drop, List.length_take]; rfl)) ?_; (with_reducible refine (cadenceref01_Un.calls k a0 a1 a2 t109 t110 _ A5.out).mono ?_); rintro e w' ⟨rfl, ⟨nd, rfl⟩⟩; refine ⟨_, rfl, ?_⟩))
    go_ret
    exact ⟨by first | rfl | (simp; done) | (simp [*]; done), by repeat (first | exact Drawn0.refl _ | apply Drawn0.step)⟩

/-- THE ONE PURE STATEMENT of cadencelaw01_BitsOne: yours. -/
def cadencelaw01_BitsOne.Pure : Prop := ∀ (a0 : Int) (a1 : Int) (a2 : Int), (Lit.int .i64 a0).wf = true → (Lit.int .i64 a1).wf = true → (Lit.int .u64 a2).wf = true → ∃ k, cadencelaw01_BitsOne.f k a0 a1 a2 = some true
theorem cadencelaw01_BitsOne.walk (P : cadencelaw01_BitsOne.Pure) (a0 : Int) (a1 : Int) (a2 : Int) (w : World) (w0 : (Lit.int .i64 a0).wf = true) (w1 : (Lit.int .i64 a1).wf = true) (w2 : (Lit.int .u64 a2).wf = true) :
    Calls Try.prog 5 #[.int .i64 a0, .int .i64 a1, .int .u64 a2] w fun e w' => e = .returned (.bool true) ∧ Below w.heap.size w w' := by
  obtain ⟨k, h⟩ := P a0 a1 a2 w0 w1 w2
  refine (cadencelaw01_BitsOne.calls k a0 a1 a2 true w h).mono ?_
  rintro e w' ⟨rfl, hd⟩
  exact ⟨rfl, hd.below⟩

/-! ### cadencelaw01_BitsLaws: function 9 -/
def cadencelaw01_BitsLaws.j0 : Nat → Int → Int → Int → Bool → Option (Bool)
  | 0, _, _, _, _ => none
  | k + 1, x0, x1, x2, x66 => if x66 = true then (some false) else ((cadencelaw01_two.f k 20 x0 x1 x2).bind fun t150 => ((cadencelaw01_two.f k 21 x0 t150 x2).bind fun t151 => (if t151 = x1 then ((cadencelaw01_two.f k 23 x0 x1 x2).bind fun t152 => ((cadencelaw01_two.f k 24 x0 x1 x2).bind fun t153 => ((cadencelaw01_two.f k 22 x0 t152 x2).bind fun t154 => ((cadencelaw01_two.f k 20 x0 t154 t153).bind fun t155 => (if t155 = x1 then (if x2 = 0 then ((bits_Trim.f x0 x1).bind fun t156 => (some (t156 == x1))) else (if t153 < x2 then ((bits_Trim.f x0 x1).bind fun t157 => (some (t157 == x1))) else (some false))) else (some false)))))) else (some false))))
def cadencelaw01_BitsLaws.f (k : Nat) (a0 : Int) (a1 : Int) (a2 : Int) : Option (Bool) := (cadencelaw01_alive.f k).bind fun t138 => (if t138 = true then ((bits_Right.f a0).bind fun t139 => (if t139 = true then ((bits_Trim.f a0 a1).bind fun t142 => ((bits_Trim.f a0 a2).bind fun t143 => ((bits_Un.f k 15 a0 t142).bind fun bt144 => ((bits_Un.f k 16 a0 t142).bind fun bt146 => (if bt144.2 = 0 then (if bt146.2 = 0 then ((cadencelaw01_two.f k 20 a0 bt144.1 1).bind fun t148 => (if t148 = bt146.1 then ((cadencelaw01_two.f k 20 a0 t142 bt146.1).bind fun t149 => (cadencelaw01_BitsLaws.j0 k a0 t142 t143 (t149 != 0))) else (cadencelaw01_BitsLaws.j0 k a0 t142 t143 true))) else (cadencelaw01_BitsLaws.j0 k a0 t142 t143 true)) else (cadencelaw01_BitsLaws.j0 k a0 t142 t143 true)))))) else ((bits_Bin.f k 20 a0 a1 a2).bind fun bt140 => (some (bt140.2 == 5))))) else (some false))
theorem cadencelaw01_BitsLaws.mono_l : ∀ k, (∀ y0 y1 y2 y3, LeO (cadencelaw01_BitsLaws.j0 k y0 y1 y2 y3) (cadencelaw01_BitsLaws.j0 (k + 1) y0 y1 y2 y3))
  | 0 => fun _ _ _ _ r h => by simp [cadencelaw01_BitsLaws.j0] at h
  | k + 1 => by
    have ih0 := cadencelaw01_BitsLaws.mono_l k
    · intro y0 y1 y2 y3
      unfold cadencelaw01_BitsLaws.j0
      repeat' first
      | (with_reducible exact ih0 _ _ _ _)
      | (with_reducible exact bits_Bin.mono _ _ _ _ _)
      | (with_reducible exact bits_Un.mono _ _ _ _)
      | (with_reducible exact cadencelaw01_alive.mono _)
      | (with_reducible exact cadencelaw01_two.mono _ _ _ _ _)
      | (with_reducible exact LeO.refl _)
      | (with_reducible exact LeO.none _)
      | (with_reducible refine LeO.ite ?_ ?_)
      | (with_reducible refine LeO.bind ?_ (fun _ => ?_))
      | exact ih0 _ _ _ _
      | exact bits_Bin.mono _ _ _ _ _
      | exact bits_Un.mono _ _ _ _
      | exact cadencelaw01_alive.mono _
      | exact cadencelaw01_two.mono _ _ _ _ _
      | exact LeO.none _
      | refine LeO.ite ?_ ?_
      | refine LeO.bind ?_ (fun _ => ?_)
theorem cadencelaw01_BitsLaws.mono : ∀ a0 a1 a2 k, LeO (cadencelaw01_BitsLaws.f k a0 a1 a2) (cadencelaw01_BitsLaws.f (k + 1) a0 a1 a2) := by
  intro a0 a1 a2 k
  have ih0 := cadencelaw01_BitsLaws.mono_l k
  unfold cadencelaw01_BitsLaws.f
  repeat' first
      | (with_reducible exact ih0 _ _ _ _)
      | (with_reducible exact bits_Bin.mono _ _ _ _ _)
      | (with_reducible exact bits_Un.mono _ _ _ _)
      | (with_reducible exact cadencelaw01_alive.mono _)
      | (with_reducible exact cadencelaw01_two.mono _ _ _ _ _)
      | (with_reducible exact LeO.refl _)
      | (with_reducible exact LeO.none _)
      | (with_reducible refine LeO.ite ?_ ?_)
      | (with_reducible refine LeO.bind ?_ (fun _ => ?_))
      | exact ih0 _ _ _ _
      | exact bits_Bin.mono _ _ _ _ _
      | exact bits_Un.mono _ _ _ _
      | exact cadencelaw01_alive.mono _
      | exact cadencelaw01_two.mono _ _ _ _ _
      | exact LeO.none _
      | refine LeO.ite ?_ ?_
      | refine LeO.bind ?_ (fun _ => ?_)
set_option maxHeartbeats 8000000 in
set_option maxRecDepth 100000 in
theorem cadencelaw01_BitsLaws.calls (k : Nat) (a0 : Int) (a1 : Int) (a2 : Int) (r : Bool) (w : World) (h : cadencelaw01_BitsLaws.f k a0 a1 a2 = some r) :
    Calls Try.prog 9 #[.int .i64 a0, .int .u64 a1, .int .u64 a2] w fun e w' => e = .returned (.bool r) ∧ Drawn0 w w' := by
  have H : ((cadencelaw01_alive.f k).bind fun t138 => (if t138 = true then ((bits_Right.f a0).bind fun t139 => (if t139 = true then ((bits_Trim.f a0 a1).bind fun t142 => ((bits_Trim.f a0 a2).bind fun t143 => ((bits_Un.f k 15 a0 t142).bind fun bt144 => ((bits_Un.f k 16 a0 t142).bind fun bt146 => (if bt144.2 = 0 then (if bt146.2 = 0 then ((cadencelaw01_two.f k 20 a0 bt144.1 1).bind fun t148 => (if t148 = bt146.1 then ((cadencelaw01_two.f k 20 a0 t142 bt146.1).bind fun t149 => (cadencelaw01_BitsLaws.j0 k a0 t142 t143 (t149 != 0))) else (cadencelaw01_BitsLaws.j0 k a0 t142 t143 true))) else (cadencelaw01_BitsLaws.j0 k a0 t142 t143 true)) else (cadencelaw01_BitsLaws.j0 k a0 t142 t143 true)))))) else ((bits_Bin.f k 20 a0 a1 a2).bind fun bt140 => (some (bt140.2 == 5))))) else (some false))) = some r := h
  clear h
  replace H := Option.bind_eq_some_iff.mp H
  obtain ⟨t138, A40, H⟩ := H
  replace H : (if t138 = true then ((bits_Right.f a0).bind fun t139 => (if t139 = true then ((bits_Trim.f a0 a1).bind fun t142 => ((bits_Trim.f a0 a2).bind fun t143 => ((bits_Un.f k 15 a0 t142).bind fun bt144 => ((bits_Un.f k 16 a0 t142).bind fun bt146 => (if bt144.2 = 0 then (if bt146.2 = 0 then ((cadencelaw01_two.f k 20 a0 bt144.1 1).bind fun t148 => (if t148 = bt146.1 then ((cadencelaw01_two.f k 20 a0 t142 bt146.1).bind fun t149 => (cadencelaw01_BitsLaws.j0 k a0 t142 t143 (t149 != 0))) else (cadencelaw01_BitsLaws.j0 k a0 t142 t143 true))) else (cadencelaw01_BitsLaws.j0 k a0 t142 t143 true)) else (cadencelaw01_BitsLaws.j0 k a0 t142 t143 true)))))) else ((bits_Bin.f k 20 a0 a1 a2).bind fun bt140 => (some (bt140.2 == 5))))) else (some false)) = some r := H
  have A4 := Aside0.mk A40
  clear A40
  by_cases c5 : t138 = true
  · subst c5
    have H1 : ((bits_Right.f a0).bind fun t139 => (if t139 = true then ((bits_Trim.f a0 a1).bind fun t142 => ((bits_Trim.f a0 a2).bind fun t143 => ((bits_Un.f k 15 a0 t142).bind fun bt144 => ((bits_Un.f k 16 a0 t142).bind fun bt146 => (if bt144.2 = 0 then (if bt146.2 = 0 then ((cadencelaw01_two.f k 20 a0 bt144.1 1).bind fun t148 => (if t148 = bt146.1 then ((cadencelaw01_two.f k 20 a0 t142 bt146.1).bind fun t149 => (cadencelaw01_BitsLaws.j0 k a0 t142 t143 (t149 != 0))) else (cadencelaw01_BitsLaws.j0 k a0 t142 t143 true))) else (cadencelaw01_BitsLaws.j0 k a0 t142 t143 true)) else (cadencelaw01_BitsLaws.j0 k a0 t142 t143 true)))))) else ((bits_Bin.f k 20 a0 a1 a2).bind fun bt140 => (some (bt140.2 == 5))))) = some r := by rw [if_pos rfl] at H; exact H
    clear H
    have H := H1
    clear H1
    replace H := Option.bind_eq_some_iff.mp H
    obtain ⟨t139, A60, H⟩ := H
    replace H : (if t139 = true then ((bits_Trim.f a0 a1).bind fun t142 => ((bits_Trim.f a0 a2).bind fun t143 => ((bits_Un.f k 15 a0 t142).bind fun bt144 => ((bits_Un.f k 16 a0 t142).bind fun bt146 => (if bt144.2 = 0 then (if bt146.2 = 0 then ((cadencelaw01_two.f k 20 a0 bt144.1 1).bind fun t148 => (if t148 = bt146.1 then ((cadencelaw01_two.f k 20 a0 t142 bt146.1).bind fun t149 => (cadencelaw01_BitsLaws.j0 k a0 t142 t143 (t149 != 0))) else (cadencelaw01_BitsLaws.j0 k a0 t142 t143 true))) else (cadencelaw01_BitsLaws.j0 k a0 t142 t143 true)) else (cadencelaw01_BitsLaws.j0 k a0 t142 t143 true)))))) else ((bits_Bin.f k 20 a0 a1 a2).bind fun bt140 => (some (bt140.2 == 5)))) = some r := H
    have A6 := Aside0.mk A60
    clear A60
    by_cases c7 : t139 = true
    · subst c7
      have H1 : ((bits_Trim.f a0 a1).bind fun t142 => ((bits_Trim.f a0 a2).bind fun t143 => ((bits_Un.f k 15 a0 t142).bind fun bt144 => ((bits_Un.f k 16 a0 t142).bind fun bt146 => (if bt144.2 = 0 then (if bt146.2 = 0 then ((cadencelaw01_two.f k 20 a0 bt144.1 1).bind fun t148 => (if t148 = bt146.1 then ((cadencelaw01_two.f k 20 a0 t142 bt146.1).bind fun t149 => (cadencelaw01_BitsLaws.j0 k a0 t142 t143 (t149 != 0))) else (cadencelaw01_BitsLaws.j0 k a0 t142 t143 true))) else (cadencelaw01_BitsLaws.j0 k a0 t142 t143 true)) else (cadencelaw01_BitsLaws.j0 k a0 t142 t143 true)))))) = some r := by rw [if_pos rfl] at H; exact H
      clear H
      have H := H1
      clear H1
      replace H := Option.bind_eq_some_iff.mp H
      obtain ⟨t142, A80, H⟩ := H
      replace H : ((bits_Trim.f a0 a2).bind fun t143 => ((bits_Un.f k 15 a0 t142).bind fun bt144 => ((bits_Un.f k 16 a0 t142).bind fun bt146 => (if bt144.2 = 0 then (if bt146.2 = 0 then ((cadencelaw01_two.f k 20 a0 bt144.1 1).bind fun t148 => (if t148 = bt146.1 then ((cadencelaw01_two.f k 20 a0 t142 bt146.1).bind fun t149 => (cadencelaw01_BitsLaws.j0 k a0 t142 t143 (t149 != 0))) else (cadencelaw01_BitsLaws.j0 k a0 t142 t143 true))) else (cadencelaw01_BitsLaws.j0 k a0 t142 t143 true)) else (cadencelaw01_BitsLaws.j0 k a0 t142 t143 true))))) = some r := H
      have A8 := Aside0.mk A80
      clear A80
      replace H := Option.bind_eq_some_iff.mp H
      obtain ⟨t143, A90, H⟩ := H
      replace H : ((bits_Un.f k 15 a0 t142).bind fun bt144 => ((bits_Un.f k 16 a0 t142).bind fun bt146 => (if bt144.2 = 0 then (if bt146.2 = 0 then ((cadencelaw01_two.f k 20 a0 bt144.1 1).bind fun t148 => (if t148 = bt146.1 then ((cadencelaw01_two.f k 20 a0 t142 bt146.1).bind fun t149 => (cadencelaw01_BitsLaws.j0 k a0 t142 t143 (t149 != 0))) else (cadencelaw01_BitsLaws.j0 k a0 t142 t143 true))) else (cadencelaw01_BitsLaws.j0 k a0 t142 t143 true)) else (cadencelaw01_BitsLaws.j0 k a0 t142 t143 true)))) = some r := H
      have A9 := Aside0.mk A90
      clear A90
      replace H := Option.bind_eq_some_iff.mp H
      obtain ⟨⟨t144, t145⟩, A100, H⟩ := H
      replace H : ((bits_Un.f k 16 a0 t142).bind fun bt146 => (if t145 = 0 then (if bt146.2 = 0 then ((cadencelaw01_two.f k 20 a0 t144 1).bind fun t148 => (if t148 = bt146.1 then ((cadencelaw01_two.f k 20 a0 t142 bt146.1).bind fun t149 => (cadencelaw01_BitsLaws.j0 k a0 t142 t143 (t149 != 0))) else (cadencelaw01_BitsLaws.j0 k a0 t142 t143 true))) else (cadencelaw01_BitsLaws.j0 k a0 t142 t143 true)) else (cadencelaw01_BitsLaws.j0 k a0 t142 t143 true))) = some r := H
      have A10 := Aside0.mk A100
      clear A100
      replace H := Option.bind_eq_some_iff.mp H
      obtain ⟨⟨t146, t147⟩, A110, H⟩ := H
      replace H : (if t145 = 0 then (if t147 = 0 then ((cadencelaw01_two.f k 20 a0 t144 1).bind fun t148 => (if t148 = t146 then ((cadencelaw01_two.f k 20 a0 t142 t146).bind fun t149 => (cadencelaw01_BitsLaws.j0 k a0 t142 t143 (t149 != 0))) else (cadencelaw01_BitsLaws.j0 k a0 t142 t143 true))) else (cadencelaw01_BitsLaws.j0 k a0 t142 t143 true)) else (cadencelaw01_BitsLaws.j0 k a0 t142 t143 true)) = some r := H
      have A11 := Aside0.mk A110
      clear A110
      have HC12 := Aside0.mk H
      clear H
      go_enter Try.func9, Try.ntmps9
      go_upto_region 10 with (first | ((with_reducible refine gate_callee (f := 33) rfl ?_); refine goesL_ (some 15) rfl rfl Try.func33 (by kernel_rfl) rfl #[] rfl (by (try simp only [List.map_toArray, List.map_cons, List.map_nil]); first | done | rfl | (simp only [List.length_drop, List.length_take]; rfl)) ?_; (with_reducible refine (cadencelaw01_alive.calls k  true _ A4.out).mono ?_); rintro e w' ⟨rfl, ⟨nd, rfl⟩⟩; refine ⟨_, rfl, ?_⟩) | ((with_reducible refine gate_callee (f := 15) rfl ?_); refine goesL_ (some 18) rfl rfl Try.func15 (by kernel_rfl) rfl #[.int .i64 a0] rfl (by (try simp only [List.map_toArray, List.map_cons, List.map_nil]); first | done | rfl | (simp only [List.length_drop, List.length_take]; rfl)) ?_; (with_reducible refine (bits_Right.calls a0 true _ A6.out).mono ?_); rintro e w' ⟨rfl, ⟨nd, rfl⟩⟩; refine ⟨_, rfl, ?_⟩) | ((with_reducible refine gate_callee (f := 17) rfl ?_); refine goesL_ (some 31) rfl rfl Try.func17 (by kernel_rfl) rfl #[.int .i64 a0, .int .u64 a1] rfl (by (try simp only [List.map_toArray, List.map_cons, List.map_nil]); first | done | rfl | (simp only [List.length_drop, List.length_take]; rfl)) ?_; (with_reducible refine (bits_Trim.calls a0 a1 t142 _ A8.out).mono ?_); rintro e w' ⟨rfl, ⟨nd, rfl⟩⟩; refine ⟨_, rfl, ?_⟩) | ((with_reducible refine gate_callee (f := 17) rfl ?_); refine goesL_ (some 34) rfl rfl Try.func17 (by kernel_rfl) rfl #[.int .i64 a0, .int .u64 a2] rfl (by (try simp only [List.map_toArray, List.map_cons, List.map_nil]); first | done | rfl | (simp only [List.length_drop, List.length_take]; rfl)) ?_; (with_reducible refine (bits_Trim.calls a0 a2 t143 _ A9.out).mono ?_); rintro e w' ⟨rfl, ⟨nd, rfl⟩⟩; refine ⟨_, rfl, ?_⟩) | ((with_reducible refine gate_callee (f := 21) rfl ?_); refine goesL_ (some 38) rfl rfl Try.func21 (by kernel_rfl) rfl #[.int .i64 15, .int .i64 a0, .int .u64 t142] rfl (by (try simp only [List.map_toArray, List.map_cons, List.map_nil]); first | done | rfl | (simp only [List.length_drop, List.length_take]; rfl)) ?_; (with_reducible refine (bits_Un.calls k 15 a0 t142 t144 t145 _ A10.out).mono ?_); rintro e w' ⟨rfl, ⟨nd, rfl⟩⟩; refine ⟨_, rfl, ?_⟩) | ((with_reducible refine gate_callee (f := 21) rfl ?_); refine goesL_ (some 44) rfl rfl Try.func21 (by kernel_rfl) rfl #[.int .i64 16, .int .i64 a0, .int .u64 t142] rfl (by (try simp only [List.map_toArray, List.map_cons, List.map_nil]); first | done | rfl | (simp only [List.length_drop, List.length_take]; rfl)) ?_; (with_reducible refine (bits_Un.calls k 16 a0 t142 t146 t147 _ A11.out).mono ?_); rintro e w' ⟨rfl, ⟨nd, rfl⟩⟩; refine ⟨_, rfl, ?_⟩))
      (try simp only [Act.put, List.setIfInBounds_toArray, List.set_cons_zero, List.set_cons_succ])
      go_cut [66] (fun v66 wc => ∃ (kq : Nat) (x66_11 : Bool), v66 = .bool x66_11 ∧ Aside0 (cadencelaw01_BitsLaws.j0 kq a0 t142 t143 x66_11 = some r) ∧ Aside0 (kq ≤ k) ∧ Drawn0 w wc)
      case first =>
        have H := HC12.out
        clear HC12
        by_cases c13 : t145 = 0
        · rw [if_pos c13] at H
          have c13b0 : (t145 == 0) = true := beq_iff_eq.mpr c13
          have c13b1 : (t145 != 0) = false := bne_eq_false_iff_eq.mpr c13
          clear c13
          (first | rw [c13b0] | (simp only [i64_w, i32_w]; rw [c13b0]) | skip)
          by_cases c14 : t147 = 0
          · rw [if_pos c14] at H
            have c14b0 : (t147 == 0) = true := beq_iff_eq.mpr c14
            have c14b1 : (t147 != 0) = false := bne_eq_false_iff_eq.mpr c14
            clear c14
            replace H := Option.bind_eq_some_iff.mp H
            obtain ⟨t148, A150, H⟩ := H
            replace H : (if t148 = t146 then ((cadencelaw01_two.f k 20 a0 t142 t146).bind fun t149 => (cadencelaw01_BitsLaws.j0 k a0 t142 t143 (t149 != 0))) else (cadencelaw01_BitsLaws.j0 k a0 t142 t143 true)) = some r := H
            have A15 := Aside0.mk A150
            clear A150
            by_cases c16 : t148 = t146
            · rw [if_pos c16] at H
              have c16b0 : (t148 == t146) = true := beq_iff_eq.mpr c16
              have c16b1 : (t148 != t146) = false := bne_eq_false_iff_eq.mpr c16
              clear c16
              replace H := Option.bind_eq_some_iff.mp H
              obtain ⟨t149, A170, H⟩ := H
              replace H : (cadencelaw01_BitsLaws.j0 k a0 t142 t143 (t149 != 0)) = some r := H
              have A17 := Aside0.mk A170
              clear A170
              have H' := Aside0.mk H
              clear H
              go_wp2_with (first | (go_at_call 34; (with_reducible refine (cadencelaw01_two.calls k 20 a0 t144 1 t148 _ A15.out).mono ?_); rintro e w' ⟨rfl, ⟨nd, rfl⟩⟩) | (go_at_call 34; (with_reducible refine (cadencelaw01_two.calls k 20 a0 t142 t146 t149 _ A17.out).mono ?_); rintro e w' ⟨rfl, ⟨nd, rfl⟩⟩))
              go_meet
              case rel => exact ⟨_, ((t149 != 0)), (by first | rfl | (simp; done) | (simp [*]; done)), H', ⟨by first | omega | exact Nat.le_refl _⟩, by repeat (first | exact Drawn0.refl _ | apply Drawn0.step)⟩
            · rw [if_neg c16] at H
              have c16b0 : (t148 == t146) = false := beq_eq_false_iff_ne.mpr c16
              have c16b1 : (t148 != t146) = true := bne_iff_ne.mpr c16
              have H' := Aside0.mk H
              clear H
              go_wp2_with (first | (go_at_call 34; (with_reducible refine (cadencelaw01_two.calls k 20 a0 t144 1 t148 _ A15.out).mono ?_); rintro e w' ⟨rfl, ⟨nd, rfl⟩⟩))
              go_meet
              case rel => exact ⟨_, (true), (by first | rfl | (simp; done) | (simp [*]; done)), H', ⟨by first | omega | exact Nat.le_refl _⟩, by repeat (first | exact Drawn0.refl _ | apply Drawn0.step)⟩
          · rw [if_neg c14] at H
            have c14b0 : (t147 == 0) = false := beq_eq_false_iff_ne.mpr c14
            have c14b1 : (t147 != 0) = true := bne_iff_ne.mpr c14
            have H' := Aside0.mk H
            clear H
            go_wp2
            go_meet
            case rel => exact ⟨_, (true), (by first | rfl | (simp; done) | (simp [*]; done)), H', ⟨by first | omega | exact Nat.le_refl _⟩, by repeat (first | exact Drawn0.refl _ | apply Drawn0.step)⟩
        · rw [if_neg c13] at H
          have c13b0 : (t145 == 0) = false := beq_eq_false_iff_ne.mpr c13
          have c13b1 : (t145 != 0) = true := bne_iff_ne.mpr c13
          (first | rw [c13b0] | (simp only [i64_w, i32_w]; rw [c13b0]) | skip)
          have H' := Aside0.mk H
          clear H
          go_wp2
          go_meet
          case rel => exact ⟨_, (true), (by first | rfl | (simp; done) | (simp [*]; done)), H', ⟨by first | omega | exact Nat.le_refl _⟩, by repeat (first | exact Drawn0.refl _ | apply Drawn0.step)⟩
      case rest =>
        clear HC12
        try clear c1
        try clear c2
        try clear p2
        try clear c3
        try clear c5
        try clear c7
        try clear c9
        try clear c13
        try clear c13b0
        try clear c13b1
        try clear c14
        try clear c14b0
        try clear c14b1
        try clear c15
        try clear c16
        try clear c16b0
        try clear c16b1
        try clear c17
        obtain ⟨kq, x66_11, rfl, HA, HJ11, ⟨mc11, rfl⟩⟩ := hcut
        cases kq with
        | zero => exact absurd HA.out (by simp [cadencelaw01_BitsLaws.j0])
        | succ kj11 =>
          have H := HA.out
          clear HA
          simp only [cadencelaw01_BitsLaws.j0] at H
          by_cases c18 : x66_11 = true
          · subst c18
            have H1 : (some false) = some r := by rw [if_pos rfl] at H; exact H
            clear H
            have H := H1
            clear H1
            obtain rfl := Option.some.inj H
            go_wp2
            go_ret
            exact ⟨by first | rfl | (simp; done) | (simp [*]; done), by repeat (first | exact Drawn0.refl _ | apply Drawn0.step)⟩
          · replace c18 := Bool.eq_false_iff.mpr c18
            subst c18
            have H1 : ((cadencelaw01_two.f kj11 20 a0 t142 t143).bind fun t150 => ((cadencelaw01_two.f kj11 21 a0 t150 t143).bind fun t151 => (if t151 = t142 then ((cadencelaw01_two.f kj11 23 a0 t142 t143).bind fun t152 => ((cadencelaw01_two.f kj11 24 a0 t142 t143).bind fun t153 => ((cadencelaw01_two.f kj11 22 a0 t152 t143).bind fun t154 => ((cadencelaw01_two.f kj11 20 a0 t154 t153).bind fun t155 => (if t155 = t142 then (if t143 = 0 then ((bits_Trim.f a0 t142).bind fun t156 => (some (t156 == t142))) else (if t153 < t143 then ((bits_Trim.f a0 t142).bind fun t157 => (some (t157 == t142))) else (some false))) else (some false)))))) else (some false)))) = some r := by rw [if_neg (show ¬ (false = true) by decide)] at H; exact H
            clear H
            have H := H1
            clear H1
            replace H := Option.bind_eq_some_iff.mp H
            obtain ⟨t150, A190, H⟩ := H
            replace H : ((cadencelaw01_two.f kj11 21 a0 t150 t143).bind fun t151 => (if t151 = t142 then ((cadencelaw01_two.f kj11 23 a0 t142 t143).bind fun t152 => ((cadencelaw01_two.f kj11 24 a0 t142 t143).bind fun t153 => ((cadencelaw01_two.f kj11 22 a0 t152 t143).bind fun t154 => ((cadencelaw01_two.f kj11 20 a0 t154 t153).bind fun t155 => (if t155 = t142 then (if t143 = 0 then ((bits_Trim.f a0 t142).bind fun t156 => (some (t156 == t142))) else (if t153 < t143 then ((bits_Trim.f a0 t142).bind fun t157 => (some (t157 == t142))) else (some false))) else (some false)))))) else (some false))) = some r := H
            have A19 := Aside0.mk A190
            clear A190
            replace H := Option.bind_eq_some_iff.mp H
            obtain ⟨t151, A200, H⟩ := H
            replace H : (if t151 = t142 then ((cadencelaw01_two.f kj11 23 a0 t142 t143).bind fun t152 => ((cadencelaw01_two.f kj11 24 a0 t142 t143).bind fun t153 => ((cadencelaw01_two.f kj11 22 a0 t152 t143).bind fun t154 => ((cadencelaw01_two.f kj11 20 a0 t154 t153).bind fun t155 => (if t155 = t142 then (if t143 = 0 then ((bits_Trim.f a0 t142).bind fun t156 => (some (t156 == t142))) else (if t153 < t143 then ((bits_Trim.f a0 t142).bind fun t157 => (some (t157 == t142))) else (some false))) else (some false)))))) else (some false)) = some r := H
            have A20 := Aside0.mk A200
            clear A200
            by_cases c21 : t151 = t142
            · rw [if_pos c21] at H
              have c21b0 : (t151 == t142) = true := beq_iff_eq.mpr c21
              have c21b1 : (t151 != t142) = false := bne_eq_false_iff_eq.mpr c21
              clear c21
              replace H := Option.bind_eq_some_iff.mp H
              obtain ⟨t152, A220, H⟩ := H
              replace H : ((cadencelaw01_two.f kj11 24 a0 t142 t143).bind fun t153 => ((cadencelaw01_two.f kj11 22 a0 t152 t143).bind fun t154 => ((cadencelaw01_two.f kj11 20 a0 t154 t153).bind fun t155 => (if t155 = t142 then (if t143 = 0 then ((bits_Trim.f a0 t142).bind fun t156 => (some (t156 == t142))) else (if t153 < t143 then ((bits_Trim.f a0 t142).bind fun t157 => (some (t157 == t142))) else (some false))) else (some false))))) = some r := H
              have A22 := Aside0.mk A220
              clear A220
              replace H := Option.bind_eq_some_iff.mp H
              obtain ⟨t153, A230, H⟩ := H
              replace H : ((cadencelaw01_two.f kj11 22 a0 t152 t143).bind fun t154 => ((cadencelaw01_two.f kj11 20 a0 t154 t153).bind fun t155 => (if t155 = t142 then (if t143 = 0 then ((bits_Trim.f a0 t142).bind fun t156 => (some (t156 == t142))) else (if t153 < t143 then ((bits_Trim.f a0 t142).bind fun t157 => (some (t157 == t142))) else (some false))) else (some false)))) = some r := H
              have A23 := Aside0.mk A230
              clear A230
              replace H := Option.bind_eq_some_iff.mp H
              obtain ⟨t154, A240, H⟩ := H
              replace H : ((cadencelaw01_two.f kj11 20 a0 t154 t153).bind fun t155 => (if t155 = t142 then (if t143 = 0 then ((bits_Trim.f a0 t142).bind fun t156 => (some (t156 == t142))) else (if t153 < t143 then ((bits_Trim.f a0 t142).bind fun t157 => (some (t157 == t142))) else (some false))) else (some false))) = some r := H
              have A24 := Aside0.mk A240
              clear A240
              replace H := Option.bind_eq_some_iff.mp H
              obtain ⟨t155, A250, H⟩ := H
              replace H : (if t155 = t142 then (if t143 = 0 then ((bits_Trim.f a0 t142).bind fun t156 => (some (t156 == t142))) else (if t153 < t143 then ((bits_Trim.f a0 t142).bind fun t157 => (some (t157 == t142))) else (some false))) else (some false)) = some r := H
              have A25 := Aside0.mk A250
              clear A250
              by_cases c26 : t155 = t142
              · rw [if_pos c26] at H
                have c26b0 : (t155 == t142) = true := beq_iff_eq.mpr c26
                have c26b1 : (t155 != t142) = false := bne_eq_false_iff_eq.mpr c26
                clear c26
                by_cases c27 : t143 = 0
                · rw [if_pos c27] at H
                  have c27b0 : (t143 == 0) = true := beq_iff_eq.mpr c27
                  have c27b1 : (t143 != 0) = false := bne_eq_false_iff_eq.mpr c27
                  clear c27
                  replace H := Option.bind_eq_some_iff.mp H
                  obtain ⟨t156, A280, H⟩ := H
                  replace H : (some (t156 == t142)) = some r := H
                  have A28 := Aside0.mk A280
                  clear A280
                  obtain rfl := Option.some.inj H
                  go_wp2_with (first | ((with_reducible refine gate_callee (f := 34) rfl ?_); refine goesL_ (some 71) rfl rfl Try.func34 (by kernel_rfl) rfl #[.int .i64 20, .int .i64 a0, .int .u64 t142, .int .u64 t143] rfl (by (try simp only [List.map_toArray, List.map_cons, List.map_nil]); first | done | rfl | (simp only [List.length_drop, List.length_take]; rfl)) ?_; (with_reducible refine (cadencelaw01_two.calls kj11 20 a0 t142 t143 t150 _ A19.out).mono ?_); rintro e w' ⟨rfl, ⟨nd, rfl⟩⟩; refine ⟨_, rfl, ?_⟩) | ((with_reducible refine gate_callee (f := 34) rfl ?_); refine goesL_ (some 73) rfl rfl Try.func34 (by kernel_rfl) rfl #[.int .i64 21, .int .i64 a0, .int .u64 t150, .int .u64 t143] rfl (by (try simp only [List.map_toArray, List.map_cons, List.map_nil]); first | done | rfl | (simp only [List.length_drop, List.length_take]; rfl)) ?_; (with_reducible refine (cadencelaw01_two.calls kj11 21 a0 t150 t143 t151 _ A20.out).mono ?_); rintro e w' ⟨rfl, ⟨nd, rfl⟩⟩; refine ⟨_, rfl, ?_⟩) | ((with_reducible refine gate_callee (f := 34) rfl ?_); refine goesL_ (some 79) rfl rfl Try.func34 (by kernel_rfl) rfl #[.int .i64 23, .int .i64 a0, .int .u64 t142, .int .u64 t143] rfl (by (try simp only [List.map_toArray, List.map_cons, List.map_nil]); first | done | rfl | (simp only [List.length_drop, List.length_take]; rfl)) ?_; (with_reducible refine (cadencelaw01_two.calls kj11 23 a0 t142 t143 t152 _ A22.out).mono ?_); rintro e w' ⟨rfl, ⟨nd, rfl⟩⟩; refine ⟨_, rfl, ?_⟩) | ((with_reducible refine gate_callee (f := 34) rfl ?_); refine goesL_ (some 83) rfl rfl Try.func34 (by kernel_rfl) rfl #[.int .i64 24, .int .i64 a0, .int .u64 t142, .int .u64 t143] rfl (by (try simp only [List.map_toArray, List.map_cons, List.map_nil]); first | done | rfl | (simp only [List.length_drop, List.length_take]; rfl)) ?_; (with_reducible refine (cadencelaw01_two.calls kj11 24 a0 t142 t143 t153 _ A23.out).mono ?_); rintro e w' ⟨rfl, ⟨nd, rfl⟩⟩; refine ⟨_, rfl, ?_⟩) | ((with_reducible refine gate_callee (f := 34) rfl ?_); refine goesL_ (some 88) rfl rfl Try.func34 (by kernel_rfl) rfl #[.int .i64 22, .int .i64 a0, .int .u64 t152, .int .u64 t143] rfl (by (try simp only [List.map_toArray, List.map_cons, List.map_nil]); first | done | rfl | (simp only [List.length_drop, List.length_take]; rfl)) ?_; (with_reducible refine (cadencelaw01_two.calls kj11 22 a0 t152 t143 t154 _ A24.out).mono ?_); rintro e w' ⟨rfl, ⟨nd, rfl⟩⟩; refine ⟨_, rfl, ?_⟩) | ((with_reducible refine gate_callee (f := 34) rfl ?_); refine goesL_ (some 90) rfl rfl Try.func34 (by kernel_rfl) rfl #[.int .i64 20, .int .i64 a0, .int .u64 t154, .int .u64 t153] rfl (by (try simp only [List.map_toArray, List.map_cons, List.map_nil]); first | done | rfl | (simp only [List.length_drop, List.length_take]; rfl)) ?_; (with_reducible refine (cadencelaw01_two.calls kj11 20 a0 t154 t153 t155 _ A25.out).mono ?_); rintro e w' ⟨rfl, ⟨nd, rfl⟩⟩; refine ⟨_, rfl, ?_⟩) | (go_at_call 17; (with_reducible refine (bits_Trim.calls a0 t142 t156 _ A28.out).mono ?_); rintro e w' ⟨rfl, ⟨nd, rfl⟩⟩))
                  go_ret
                  exact ⟨by first | rfl | (simp; done) | (simp [*]; done), by repeat (first | exact Drawn0.refl _ | apply Drawn0.step)⟩
                · rw [if_neg c27] at H
                  have c27b0 : (t143 == 0) = false := beq_eq_false_iff_ne.mpr c27
                  have c27b1 : (t143 != 0) = true := bne_iff_ne.mpr c27
                  by_cases c29 : t153 < t143
                  · rw [if_pos c29] at H
                    have c29b0 : decide (t153 < t143) = true := decide_eq_true c29
                    clear c29
                    replace H := Option.bind_eq_some_iff.mp H
                    obtain ⟨t157, A300, H⟩ := H
                    replace H : (some (t157 == t142)) = some r := H
                    have A30 := Aside0.mk A300
                    clear A300
                    obtain rfl := Option.some.inj H
                    go_wp2_with (first | ((with_reducible refine gate_callee (f := 34) rfl ?_); refine goesL_ (some 71) rfl rfl Try.func34 (by kernel_rfl) rfl #[.int .i64 20, .int .i64 a0, .int .u64 t142, .int .u64 t143] rfl (by (try simp only [List.map_toArray, List.map_cons, List.map_nil]); first | done | rfl | (simp only [List.length_drop, List.length_take]; rfl)) ?_; (with_reducible refine (cadencelaw01_two.calls kj11 20 a0 t142 t143 t150 _ A19.out).mono ?_); rintro e w' ⟨rfl, ⟨nd, rfl⟩⟩; refine ⟨_, rfl, ?_⟩) | ((with_reducible refine gate_callee (f := 34) rfl ?_); refine goesL_ (some 73) rfl rfl Try.func34 (by kernel_rfl) rfl #[.int .i64 21, .int .i64 a0, .int .u64 t150, .int .u64 t143] rfl (by (try simp only [List.map_toArray, List.map_cons, List.map_nil]); first | done | rfl | (simp only [List.length_drop, List.length_take]; rfl)) ?_; (with_reducible refine (cadencelaw01_two.calls kj11 21 a0 t150 t143 t151 _ A20.out).mono ?_); rintro e w' ⟨rfl, ⟨nd, rfl⟩⟩; refine ⟨_, rfl, ?_⟩) | ((with_reducible refine gate_callee (f := 34) rfl ?_); refine goesL_ (some 79) rfl rfl Try.func34 (by kernel_rfl) rfl #[.int .i64 23, .int .i64 a0, .int .u64 t142, .int .u64 t143] rfl (by (try simp only [List.map_toArray, List.map_cons, List.map_nil]); first | done | rfl | (simp only [List.length_drop, List.length_take]; rfl)) ?_; (with_reducible refine (cadencelaw01_two.calls kj11 23 a0 t142 t143 t152 _ A22.out).mono ?_); rintro e w' ⟨rfl, ⟨nd, rfl⟩⟩; refine ⟨_, rfl, ?_⟩) | ((with_reducible refine gate_callee (f := 34) rfl ?_); refine goesL_ (some 83) rfl rfl Try.func34 (by kernel_rfl) rfl #[.int .i64 24, .int .i64 a0, .int .u64 t142, .int .u64 t143] rfl (by (try simp only [List.map_toArray, List.map_cons, List.map_nil]); first | done | rfl | (simp only [List.length_drop, List.length_take]; rfl)) ?_; (with_reducible refine (cadencelaw01_two.calls kj11 24 a0 t142 t143 t153 _ A23.out).mono ?_); rintro e w' ⟨rfl, ⟨nd, rfl⟩⟩; refine ⟨_, rfl, ?_⟩) | ((with_reducible refine gate_callee (f := 34) rfl ?_); refine goesL_ (some 88) rfl rfl Try.func34 (by kernel_rfl) rfl #[.int .i64 22, .int .i64 a0, .int .u64 t152, .int .u64 t143] rfl (by (try simp only [List.map_toArray, List.map_cons, List.map_nil]); first | done | rfl | (simp only [List.length_drop, List.length_take]; rfl)) ?_; (with_reducible refine (cadencelaw01_two.calls kj11 22 a0 t152 t143 t154 _ A24.out).mono ?_); rintro e w' ⟨rfl, ⟨nd, rfl⟩⟩; refine ⟨_, rfl, ?_⟩) | ((with_reducible refine gate_callee (f := 34) rfl ?_); refine goesL_ (some 90) rfl rfl Try.func34 (by kernel_rfl) rfl #[.int .i64 20, .int .i64 a0, .int .u64 t154, .int .u64 t153] rfl (by (try simp only [List.map_toArray, List.map_cons, List.map_nil]); first | done | rfl | (simp only [List.length_drop, List.length_take]; rfl)) ?_; (with_reducible refine (cadencelaw01_two.calls kj11 20 a0 t154 t153 t155 _ A25.out).mono ?_); rintro e w' ⟨rfl, ⟨nd, rfl⟩⟩; refine ⟨_, rfl, ?_⟩) | (go_at_call 17; (with_reducible refine (bits_Trim.calls a0 t142 t157 _ A30.out).mono ?_); rintro e w' ⟨rfl, ⟨nd, rfl⟩⟩))
                    go_ret
                    exact ⟨by first | rfl | (simp; done) | (simp [*]; done), by repeat (first | exact Drawn0.refl _ | apply Drawn0.step)⟩
                  · rw [if_neg c29] at H
                    have c29b0 : decide (t153 < t143) = false := decide_eq_false c29
                    clear c29
                    obtain rfl := Option.some.inj H
                    go_wp2_with (first | ((with_reducible refine gate_callee (f := 34) rfl ?_); refine goesL_ (some 71) rfl rfl Try.func34 (by kernel_rfl) rfl #[.int .i64 20, .int .i64 a0, .int .u64 t142, .int .u64 t143] rfl (by (try simp only [List.map_toArray, List.map_cons, List.map_nil]); first | done | rfl | (simp only [List.length_drop, List.length_take]; rfl)) ?_; (with_reducible refine (cadencelaw01_two.calls kj11 20 a0 t142 t143 t150 _ A19.out).mono ?_); rintro e w' ⟨rfl, ⟨nd, rfl⟩⟩; refine ⟨_, rfl, ?_⟩) | ((with_reducible refine gate_callee (f := 34) rfl ?_); refine goesL_ (some 73) rfl rfl Try.func34 (by kernel_rfl) rfl #[.int .i64 21, .int .i64 a0, .int .u64 t150, .int .u64 t143] rfl (by (try simp only [List.map_toArray, List.map_cons, List.map_nil]); first | done | rfl | (simp only [List.length_drop, List.length_take]; rfl)) ?_; (with_reducible refine (cadencelaw01_two.calls kj11 21 a0 t150 t143 t151 _ A20.out).mono ?_); rintro e w' ⟨rfl, ⟨nd, rfl⟩⟩; refine ⟨_, rfl, ?_⟩) | ((with_reducible refine gate_callee (f := 34) rfl ?_); refine goesL_ (some 79) rfl rfl Try.func34 (by kernel_rfl) rfl #[.int .i64 23, .int .i64 a0, .int .u64 t142, .int .u64 t143] rfl (by (try simp only [List.map_toArray, List.map_cons, List.map_nil]); first | done | rfl | (simp only [List.length_drop, List.length_take]; rfl)) ?_; (with_reducible refine (cadencelaw01_two.calls kj11 23 a0 t142 t143 t152 _ A22.out).mono ?_); rintro e w' ⟨rfl, ⟨nd, rfl⟩⟩; refine ⟨_, rfl, ?_⟩) | ((with_reducible refine gate_callee (f := 34) rfl ?_); refine goesL_ (some 83) rfl rfl Try.func34 (by kernel_rfl) rfl #[.int .i64 24, .int .i64 a0, .int .u64 t142, .int .u64 t143] rfl (by (try simp only [List.map_toArray, List.map_cons, List.map_nil]); first | done | rfl | (simp only [List.length_drop, List.length_take]; rfl)) ?_; (with_reducible refine (cadencelaw01_two.calls kj11 24 a0 t142 t143 t153 _ A23.out).mono ?_); rintro e w' ⟨rfl, ⟨nd, rfl⟩⟩; refine ⟨_, rfl, ?_⟩) | ((with_reducible refine gate_callee (f := 34) rfl ?_); refine goesL_ (some 88) rfl rfl Try.func34 (by kernel_rfl) rfl #[.int .i64 22, .int .i64 a0, .int .u64 t152, .int .u64 t143] rfl (by (try simp only [List.map_toArray, List.map_cons, List.map_nil]); first | done | rfl | (simp only [List.length_drop, List.length_take]; rfl)) ?_; (with_reducible refine (cadencelaw01_two.calls kj11 22 a0 t152 t143 t154 _ A24.out).mono ?_); rintro e w' ⟨rfl, ⟨nd, rfl⟩⟩; refine ⟨_, rfl, ?_⟩) | ((with_reducible refine gate_callee (f := 34) rfl ?_); refine goesL_ (some 90) rfl rfl Try.func34 (by kernel_rfl) rfl #[.int .i64 20, .int .i64 a0, .int .u64 t154, .int .u64 t153] rfl (by (try simp only [List.map_toArray, List.map_cons, List.map_nil]); first | done | rfl | (simp only [List.length_drop, List.length_take]; rfl)) ?_; (with_reducible refine (cadencelaw01_two.calls kj11 20 a0 t154 t153 t155 _ A25.out).mono ?_); rintro e w' ⟨rfl, ⟨nd, rfl⟩⟩; refine ⟨_, rfl, ?_⟩))
                    go_ret
                    exact ⟨by first | rfl | (simp; done) | (simp [*]; done), by repeat (first | exact Drawn0.refl _ | apply Drawn0.step)⟩
              · rw [if_neg c26] at H
                have c26b0 : (t155 == t142) = false := beq_eq_false_iff_ne.mpr c26
                have c26b1 : (t155 != t142) = true := bne_iff_ne.mpr c26
                obtain rfl := Option.some.inj H
                go_wp2_with (first | ((with_reducible refine gate_callee (f := 34) rfl ?_); refine goesL_ (some 71) rfl rfl Try.func34 (by kernel_rfl) rfl #[.int .i64 20, .int .i64 a0, .int .u64 t142, .int .u64 t143] rfl (by (try simp only [List.map_toArray, List.map_cons, List.map_nil]); first | done | rfl | (simp only [List.length_drop, List.length_take]; rfl)) ?_; (with_reducible refine (cadencelaw01_two.calls kj11 20 a0 t142 t143 t150 _ A19.out).mono ?_); rintro e w' ⟨rfl, ⟨nd, rfl⟩⟩; refine ⟨_, rfl, ?_⟩) | ((with_reducible refine gate_callee (f := 34) rfl ?_); refine goesL_ (some 73) rfl rfl Try.func34 (by kernel_rfl) rfl #[.int .i64 21, .int .i64 a0, .int .u64 t150, .int .u64 t143] rfl (by (try simp only [List.map_toArray, List.map_cons, List.map_nil]); first | done | rfl | (simp only [List.length_drop, List.length_take]; rfl)) ?_; (with_reducible refine (cadencelaw01_two.calls kj11 21 a0 t150 t143 t151 _ A20.out).mono ?_); rintro e w' ⟨rfl, ⟨nd, rfl⟩⟩; refine ⟨_, rfl, ?_⟩) | ((with_reducible refine gate_callee (f := 34) rfl ?_); refine goesL_ (some 79) rfl rfl Try.func34 (by kernel_rfl) rfl #[.int .i64 23, .int .i64 a0, .int .u64 t142, .int .u64 t143] rfl (by (try simp only [List.map_toArray, List.map_cons, List.map_nil]); first | done | rfl | (simp only [List.length_drop, List.length_take]; rfl)) ?_; (with_reducible refine (cadencelaw01_two.calls kj11 23 a0 t142 t143 t152 _ A22.out).mono ?_); rintro e w' ⟨rfl, ⟨nd, rfl⟩⟩; refine ⟨_, rfl, ?_⟩) | ((with_reducible refine gate_callee (f := 34) rfl ?_); refine goesL_ (some 83) rfl rfl Try.func34 (by kernel_rfl) rfl #[.int .i64 24, .int .i64 a0, .int .u64 t142, .int .u64 t143] rfl (by (try simp only [List.map_toArray, List.map_cons, List.map_nil]); first | done | rfl | (simp only [List.length_drop, List.length_take]; rfl)) ?_; (with_reducible refine (cadencelaw01_two.calls kj11 24 a0 t142 t143 t153 _ A23.out).mono ?_); rintro e w' ⟨rfl, ⟨nd, rfl⟩⟩; refine ⟨_, rfl, ?_⟩) | ((with_reducible refine gate_callee (f := 34) rfl ?_); refine goesL_ (some 88) rfl rfl Try.func34 (by kernel_rfl) rfl #[.int .i64 22, .int .i64 a0, .int .u64 t152, .int .u64 t143] rfl (by (try simp only [List.map_toArray, List.map_cons, List.map_nil]); first | done | rfl | (simp only [List.length_drop, List.length_take]; rfl)) ?_; (with_reducible refine (cadencelaw01_two.calls kj11 22 a0 t152 t143 t154 _ A24.out).mono ?_); rintro e w' ⟨rfl, ⟨nd, rfl⟩⟩; refine ⟨_, rfl, ?_⟩) | ((with_reducible refine gate_callee (f := 34) rfl ?_); refine goesL_ (some 90) rfl rfl Try.func34 (by kernel_rfl) rfl #[.int .i64 20, .int .i64 a0, .int .u64 t154, .int .u64 t153] rfl (by (try simp only [List.map_toArray, List.map_cons, List.map_nil]); first | done | rfl | (simp only [List.length_drop, List.length_take]; rfl)) ?_; (with_reducible refine (cadencelaw01_two.calls kj11 20 a0 t154 t153 t155 _ A25.out).mono ?_); rintro e w' ⟨rfl, ⟨nd, rfl⟩⟩; refine ⟨_, rfl, ?_⟩))
                go_ret
                exact ⟨by first | rfl | (simp; done) | (simp [*]; done), by repeat (first | exact Drawn0.refl _ | apply Drawn0.step)⟩
            · rw [if_neg c21] at H
              have c21b0 : (t151 == t142) = false := beq_eq_false_iff_ne.mpr c21
              have c21b1 : (t151 != t142) = true := bne_iff_ne.mpr c21
              obtain rfl := Option.some.inj H
              go_wp2_with (first | ((with_reducible refine gate_callee (f := 34) rfl ?_); refine goesL_ (some 71) rfl rfl Try.func34 (by kernel_rfl) rfl #[.int .i64 20, .int .i64 a0, .int .u64 t142, .int .u64 t143] rfl (by (try simp only [List.map_toArray, List.map_cons, List.map_nil]); first | done | rfl | (simp only [List.length_drop, List.length_take]; rfl)) ?_; (with_reducible refine (cadencelaw01_two.calls kj11 20 a0 t142 t143 t150 _ A19.out).mono ?_); rintro e w' ⟨rfl, ⟨nd, rfl⟩⟩; refine ⟨_, rfl, ?_⟩) | ((with_reducible refine gate_callee (f := 34) rfl ?_); refine goesL_ (some 73) rfl rfl Try.func34 (by kernel_rfl) rfl #[.int .i64 21, .int .i64 a0, .int .u64 t150, .int .u64 t143] rfl (by (try simp only [List.map_toArray, List.map_cons, List.map_nil]); first | done | rfl | (simp only [List.length_drop, List.length_take]; rfl)) ?_; (with_reducible refine (cadencelaw01_two.calls kj11 21 a0 t150 t143 t151 _ A20.out).mono ?_); rintro e w' ⟨rfl, ⟨nd, rfl⟩⟩; refine ⟨_, rfl, ?_⟩))
              go_ret
              exact ⟨by first | rfl | (simp; done) | (simp [*]; done), by repeat (first | exact Drawn0.refl _ | apply Drawn0.step)⟩
    · replace c7 := Bool.eq_false_iff.mpr c7
      subst c7
      have H1 : ((bits_Bin.f k 20 a0 a1 a2).bind fun bt140 => (some (bt140.2 == 5))) = some r := by rw [if_neg (show ¬ (false = true) by decide)] at H; exact H
      clear H
      have H := H1
      clear H1
      replace H := Option.bind_eq_some_iff.mp H
      obtain ⟨⟨t140, t141⟩, A310, H⟩ := H
      replace H : (some (t141 == 5)) = some r := H
      have A31 := Aside0.mk A310
      clear A310
      obtain rfl := Option.some.inj H
      go_enter Try.func9, Try.ntmps9
      go_wp2_with (first | ((with_reducible refine gate_callee (f := 33) rfl ?_); refine goesL_ (some 15) rfl rfl Try.func33 (by kernel_rfl) rfl #[] rfl (by (try simp only [List.map_toArray, List.map_cons, List.map_nil]); first | done | rfl | (simp only [List.length_drop, List.length_take]; rfl)) ?_; (with_reducible refine (cadencelaw01_alive.calls k  true _ A4.out).mono ?_); rintro e w' ⟨rfl, ⟨nd, rfl⟩⟩; refine ⟨_, rfl, ?_⟩) | ((with_reducible refine gate_callee (f := 15) rfl ?_); refine goesL_ (some 18) rfl rfl Try.func15 (by kernel_rfl) rfl #[.int .i64 a0] rfl (by (try simp only [List.map_toArray, List.map_cons, List.map_nil]); first | done | rfl | (simp only [List.length_drop, List.length_take]; rfl)) ?_; (with_reducible refine (bits_Right.calls a0 false _ A6.out).mono ?_); rintro e w' ⟨rfl, ⟨nd, rfl⟩⟩; refine ⟨_, rfl, ?_⟩) | ((with_reducible refine gate_callee (f := 31) rfl ?_); refine goesL_ (some 24) rfl rfl Try.func31 (by kernel_rfl) rfl #[.int .i64 20, .int .i64 a0, .int .u64 a1, .int .u64 a2] rfl (by (try simp only [List.map_toArray, List.map_cons, List.map_nil]); first | done | rfl | (simp only [List.length_drop, List.length_take]; rfl)) ?_; (with_reducible refine (bits_Bin.calls k 20 a0 a1 a2 t140 t141 _ A31.out).mono ?_); rintro e w' ⟨rfl, ⟨nd, rfl⟩⟩; refine ⟨_, rfl, ?_⟩))
      go_ret
      exact ⟨by first | rfl | (simp; done) | (simp [*]; done), by repeat (first | exact Drawn0.refl _ | apply Drawn0.step)⟩
  · replace c5 := Bool.eq_false_iff.mpr c5
    subst c5
    have H1 : (some false) = some r := by rw [if_neg (show ¬ (false = true) by decide)] at H; exact H
    clear H
    have H := H1
    clear H1
    obtain rfl := Option.some.inj H
    go_enter Try.func9, Try.ntmps9
    go_wp2_with (first | ((with_reducible refine gate_callee (f := 33) rfl ?_); refine goesL_ (some 15) rfl rfl Try.func33 (by kernel_rfl) rfl #[] rfl (by (try simp only [List.map_toArray, List.map_cons, List.map_nil]); first | done | rfl | (simp only [List.length_drop, List.length_take]; rfl)) ?_; (with_reducible refine (cadencelaw01_alive.calls k  false _ A4.out).mono ?_); rintro e w' ⟨rfl, ⟨nd, rfl⟩⟩; refine ⟨_, rfl, ?_⟩))
    go_ret
    exact ⟨by first | rfl | (simp; done) | (simp [*]; done), by repeat (first | exact Drawn0.refl _ | apply Drawn0.step)⟩

/-- THE ONE PURE STATEMENT of cadencelaw01_BitsLaws: yours. -/
def cadencelaw01_BitsLaws.Pure : Prop := ∀ (a0 : Int) (a1 : Int) (a2 : Int), (Lit.int .i64 a0).wf = true → (Lit.int .u64 a1).wf = true → (Lit.int .u64 a2).wf = true → ∃ k, cadencelaw01_BitsLaws.f k a0 a1 a2 = some true
theorem cadencelaw01_BitsLaws.walk (P : cadencelaw01_BitsLaws.Pure) (a0 : Int) (a1 : Int) (a2 : Int) (w : World) (w0 : (Lit.int .i64 a0).wf = true) (w1 : (Lit.int .u64 a1).wf = true) (w2 : (Lit.int .u64 a2).wf = true) :
    Calls Try.prog 9 #[.int .i64 a0, .int .u64 a1, .int .u64 a2] w fun e w' => e = .returned (.bool true) ∧ Below w.heap.size w w' := by
  obtain ⟨k, h⟩ := P a0 a1 a2 w0 w1 w2
  refine (cadencelaw01_BitsLaws.calls k a0 a1 a2 true w h).mono ?_
  rintro e w' ⟨rfl, hd⟩
  exact ⟨rfl, hd.below⟩

/-! ### cadencelaw01_BitsOrder: function 11 -/
mutual
def cadencelaw01_BitsOrder.l0 : Nat → Int → Int → Int → Int → Bool → Int → Int → Option (Bool)
  | 0, _, _, _, _, _, _, _ => none
  | k + 1, x0, x1, x2, x7, x8, x9, x10 => if x10 ≤ 12 then ((bits_Cmp.f k x10 x0 x1 x2).bind fun bt148 => ((bits_Cmp.f k x10 x0 x2 x1).bind fun bt150 => ((bits_Cmp.f k (wrap64 (x10 + 1)) x0 x1 x2).bind fun bt152 => (if bt148.1 = true then (cadencelaw01_BitsOrder.j1 k x0 x1 x2 x7 x8 x9 x10 bt148.1 bt148.2 bt150.1 bt150.2 bt152.1 bt152.2 (0 + 1)) else (cadencelaw01_BitsOrder.j1 k x0 x1 x2 x7 x8 x9 x10 bt148.1 bt148.2 bt150.1 bt150.2 bt152.1 bt152.2 0))))) else ((bits_Cmp.f k 12 x0 x1 x2).bind fun bt144 => ((bits_Cmp.f k 10 x0 (Go.bits .xor .u64 x1 x7) (Go.bits .xor .u64 x2 x7)).bind fun bt146 => (if bt144.2 = 0 then (if bt146.2 = 0 then (some (bt144.1 == bt146.1)) else (some false)) else (some false))))
def cadencelaw01_BitsOrder.j1 : Nat → Int → Int → Int → Int → Bool → Int → Int → Bool → Int → Bool → Int → Bool → Int → Int → Option (Bool)
  | 0, _, _, _, _, _, _, _, _, _, _, _, _, _, _ => none
  | k + 1, x0, x1, x2, x7, x8, x9, x10, x11, x12, x13, x14, x15, x16, x17 => if x13 = true then (cadencelaw01_BitsOrder.j2 k x0 x1 x2 x7 x8 x9 x10 x11 x12 x14 x15 x16 (wrap64 (x17 + 1))) else (cadencelaw01_BitsOrder.j2 k x0 x1 x2 x7 x8 x9 x10 x11 x12 x14 x15 x16 x17)
def cadencelaw01_BitsOrder.j2 : Nat → Int → Int → Int → Int → Bool → Int → Int → Bool → Int → Int → Bool → Int → Int → Option (Bool)
  | 0, _, _, _, _, _, _, _, _, _, _, _, _, _ => none
  | k + 1, x0, x1, x2, x7, x8, x9, x10, x11, x12, x14, x15, x16, x17 => if x8 = true then (if x9 = 0 then (if x12 = 0 then (if x14 = 0 then (if x16 = 0 then (if (wrap64 (x17 + 1)) = 1 then (if x11 = true then (if (x15 != true) = true then (some false) else (cadencelaw01_BitsOrder.l0 k x0 x1 x2 x7 x8 x9 (wrap64 (x10 + 2)))) else (if (x15 != x8) = true then (some false) else (cadencelaw01_BitsOrder.l0 k x0 x1 x2 x7 x8 x9 (wrap64 (x10 + 2))))) else (some false)) else (some false)) else (some false)) else (some false)) else (some false)) else (if x9 = 0 then (if x12 = 0 then (if x14 = 0 then (if x16 = 0 then (if x17 = 1 then (if x11 = true then (if (x15 != true) = true then (some false) else (cadencelaw01_BitsOrder.l0 k x0 x1 x2 x7 x8 x9 (wrap64 (x10 + 2)))) else (if (x15 != x8) = true then (some false) else (cadencelaw01_BitsOrder.l0 k x0 x1 x2 x7 x8 x9 (wrap64 (x10 + 2))))) else (some false)) else (some false)) else (some false)) else (some false)) else (some false))
end
def cadencelaw01_BitsOrder.f (k : Nat) (a0 : Int) (a1 : Int) (a2 : Int) : Option (Bool) := (cadencelaw01_alive.f k).bind fun t140 => (if t140 = true then ((bits_Right.f a0).bind fun t141 => (if t141 = true then (if 0 ≤ (IntKind.u64.wrap (wrap64 (a0 - 1))) then ((bits_Cmp.f k 9 a0 a1 a2).bind fun bt142 => (cadencelaw01_BitsOrder.l0 k a0 a1 a2 (shl .u64 1 (IntKind.u64.wrap (wrap64 (a0 - 1)))) bt142.1 bt142.2 10)) else (none)) else (some true))) else (some false))
theorem cadencelaw01_BitsOrder.mono_l : ∀ k, (∀ y0 y1 y2 y3 y4 y5 y6, LeO (cadencelaw01_BitsOrder.l0 k y0 y1 y2 y3 y4 y5 y6) (cadencelaw01_BitsOrder.l0 (k + 1) y0 y1 y2 y3 y4 y5 y6)) ∧ (∀ y0 y1 y2 y3 y4 y5 y6 y7 y8 y9 y10 y11 y12 y13, LeO (cadencelaw01_BitsOrder.j1 k y0 y1 y2 y3 y4 y5 y6 y7 y8 y9 y10 y11 y12 y13) (cadencelaw01_BitsOrder.j1 (k + 1) y0 y1 y2 y3 y4 y5 y6 y7 y8 y9 y10 y11 y12 y13)) ∧ (∀ y0 y1 y2 y3 y4 y5 y6 y7 y8 y9 y10 y11 y12, LeO (cadencelaw01_BitsOrder.j2 k y0 y1 y2 y3 y4 y5 y6 y7 y8 y9 y10 y11 y12) (cadencelaw01_BitsOrder.j2 (k + 1) y0 y1 y2 y3 y4 y5 y6 y7 y8 y9 y10 y11 y12))
  | 0 => ⟨fun _ _ _ _ _ _ _ r h => by simp [cadencelaw01_BitsOrder.l0] at h, fun _ _ _ _ _ _ _ _ _ _ _ _ _ _ r h => by simp [cadencelaw01_BitsOrder.j1] at h, fun _ _ _ _ _ _ _ _ _ _ _ _ _ r h => by simp [cadencelaw01_BitsOrder.j2] at h⟩
  | k + 1 => by
    obtain ⟨ih0, ih1, ih2⟩ := cadencelaw01_BitsOrder.mono_l k
    refine ⟨?_, ?_, ?_⟩
    · intro y0 y1 y2 y3 y4 y5 y6
      unfold cadencelaw01_BitsOrder.l0
      repeat' first
      | (with_reducible exact ih0 _ _ _ _ _ _ _)
      | (with_reducible exact ih1 _ _ _ _ _ _ _ _ _ _ _ _ _ _)
      | (with_reducible exact ih2 _ _ _ _ _ _ _ _ _ _ _ _ _)
      | (with_reducible exact bits_Cmp.mono _ _ _ _ _)
      | (with_reducible exact cadencelaw01_alive.mono _)
      | (with_reducible exact LeO.refl _)
      | (with_reducible exact LeO.none _)
      | (with_reducible refine LeO.ite ?_ ?_)
      | (with_reducible refine LeO.bind ?_ (fun _ => ?_))
      | exact ih0 _ _ _ _ _ _ _
      | exact ih1 _ _ _ _ _ _ _ _ _ _ _ _ _ _
      | exact ih2 _ _ _ _ _ _ _ _ _ _ _ _ _
      | exact bits_Cmp.mono _ _ _ _ _
      | exact cadencelaw01_alive.mono _
      | exact LeO.none _
      | refine LeO.ite ?_ ?_
      | refine LeO.bind ?_ (fun _ => ?_)
    · intro y0 y1 y2 y3 y4 y5 y6 y7 y8 y9 y10 y11 y12 y13
      unfold cadencelaw01_BitsOrder.j1
      repeat' first
      | (with_reducible exact ih0 _ _ _ _ _ _ _)
      | (with_reducible exact ih1 _ _ _ _ _ _ _ _ _ _ _ _ _ _)
      | (with_reducible exact ih2 _ _ _ _ _ _ _ _ _ _ _ _ _)
      | (with_reducible exact bits_Cmp.mono _ _ _ _ _)
      | (with_reducible exact cadencelaw01_alive.mono _)
      | (with_reducible exact LeO.refl _)
      | (with_reducible exact LeO.none _)
      | (with_reducible refine LeO.ite ?_ ?_)
      | (with_reducible refine LeO.bind ?_ (fun _ => ?_))
      | exact ih0 _ _ _ _ _ _ _
      | exact ih1 _ _ _ _ _ _ _ _ _ _ _ _ _ _
      | exact ih2 _ _ _ _ _ _ _ _ _ _ _ _ _
      | exact bits_Cmp.mono _ _ _ _ _
      | exact cadencelaw01_alive.mono _
      | exact LeO.none _
      | refine LeO.ite ?_ ?_
      | refine LeO.bind ?_ (fun _ => ?_)
    · intro y0 y1 y2 y3 y4 y5 y6 y7 y8 y9 y10 y11 y12
      unfold cadencelaw01_BitsOrder.j2
      repeat' first
      | (with_reducible exact ih0 _ _ _ _ _ _ _)
      | (with_reducible exact ih1 _ _ _ _ _ _ _ _ _ _ _ _ _ _)
      | (with_reducible exact ih2 _ _ _ _ _ _ _ _ _ _ _ _ _)
      | (with_reducible exact bits_Cmp.mono _ _ _ _ _)
      | (with_reducible exact cadencelaw01_alive.mono _)
      | (with_reducible exact LeO.refl _)
      | (with_reducible exact LeO.none _)
      | (with_reducible refine LeO.ite ?_ ?_)
      | (with_reducible refine LeO.bind ?_ (fun _ => ?_))
      | exact ih0 _ _ _ _ _ _ _
      | exact ih1 _ _ _ _ _ _ _ _ _ _ _ _ _ _
      | exact ih2 _ _ _ _ _ _ _ _ _ _ _ _ _
      | exact bits_Cmp.mono _ _ _ _ _
      | exact cadencelaw01_alive.mono _
      | exact LeO.none _
      | refine LeO.ite ?_ ?_
      | refine LeO.bind ?_ (fun _ => ?_)
theorem cadencelaw01_BitsOrder.mono : ∀ a0 a1 a2 k, LeO (cadencelaw01_BitsOrder.f k a0 a1 a2) (cadencelaw01_BitsOrder.f (k + 1) a0 a1 a2) := by
  intro a0 a1 a2 k
  obtain ⟨ih0, ih1, ih2⟩ := cadencelaw01_BitsOrder.mono_l k
  unfold cadencelaw01_BitsOrder.f
  repeat' first
      | (with_reducible exact ih0 _ _ _ _ _ _ _)
      | (with_reducible exact ih1 _ _ _ _ _ _ _ _ _ _ _ _ _ _)
      | (with_reducible exact ih2 _ _ _ _ _ _ _ _ _ _ _ _ _)
      | (with_reducible exact bits_Cmp.mono _ _ _ _ _)
      | (with_reducible exact cadencelaw01_alive.mono _)
      | (with_reducible exact LeO.refl _)
      | (with_reducible exact LeO.none _)
      | (with_reducible refine LeO.ite ?_ ?_)
      | (with_reducible refine LeO.bind ?_ (fun _ => ?_))
      | exact ih0 _ _ _ _ _ _ _
      | exact ih1 _ _ _ _ _ _ _ _ _ _ _ _ _ _
      | exact ih2 _ _ _ _ _ _ _ _ _ _ _ _ _
      | exact bits_Cmp.mono _ _ _ _ _
      | exact cadencelaw01_alive.mono _
      | exact LeO.none _
      | refine LeO.ite ?_ ?_
      | refine LeO.bind ?_ (fun _ => ?_)
set_option maxHeartbeats 8000000 in
set_option maxRecDepth 100000 in
theorem cadencelaw01_BitsOrder.calls (k : Nat) (a0 : Int) (a1 : Int) (a2 : Int) (r : Bool) (w : World) (h : cadencelaw01_BitsOrder.f k a0 a1 a2 = some r) :
    Calls Try.prog 11 #[.int .i64 a0, .int .u64 a1, .int .u64 a2] w fun e w' => e = .returned (.bool r) ∧ Drawn0 w w' := by
  have H : ((cadencelaw01_alive.f k).bind fun t140 => (if t140 = true then ((bits_Right.f a0).bind fun t141 => (if t141 = true then (if 0 ≤ (IntKind.u64.wrap (wrap64 (a0 - 1))) then ((bits_Cmp.f k 9 a0 a1 a2).bind fun bt142 => (cadencelaw01_BitsOrder.l0 k a0 a1 a2 (shl .u64 1 (IntKind.u64.wrap (wrap64 (a0 - 1)))) bt142.1 bt142.2 10)) else (none)) else (some true))) else (some false))) = some r := h
  clear h
  replace H := Option.bind_eq_some_iff.mp H
  obtain ⟨t140, A40, H⟩ := H
  replace H : (if t140 = true then ((bits_Right.f a0).bind fun t141 => (if t141 = true then (if 0 ≤ (IntKind.u64.wrap (wrap64 (a0 - 1))) then ((bits_Cmp.f k 9 a0 a1 a2).bind fun bt142 => (cadencelaw01_BitsOrder.l0 k a0 a1 a2 (shl .u64 1 (IntKind.u64.wrap (wrap64 (a0 - 1)))) bt142.1 bt142.2 10)) else (none)) else (some true))) else (some false)) = some r := H
  have A4 := Aside0.mk A40
  clear A40
  by_cases c5 : t140 = true
  · subst c5
    have H1 : ((bits_Right.f a0).bind fun t141 => (if t141 = true then (if 0 ≤ (IntKind.u64.wrap (wrap64 (a0 - 1))) then ((bits_Cmp.f k 9 a0 a1 a2).bind fun bt142 => (cadencelaw01_BitsOrder.l0 k a0 a1 a2 (shl .u64 1 (IntKind.u64.wrap (wrap64 (a0 - 1)))) bt142.1 bt142.2 10)) else (none)) else (some true))) = some r := by rw [if_pos rfl] at H; exact H
    clear H
    have H := H1
    clear H1
    replace H := Option.bind_eq_some_iff.mp H
    obtain ⟨t141, A60, H⟩ := H
    replace H : (if t141 = true then (if 0 ≤ (IntKind.u64.wrap (wrap64 (a0 - 1))) then ((bits_Cmp.f k 9 a0 a1 a2).bind fun bt142 => (cadencelaw01_BitsOrder.l0 k a0 a1 a2 (shl .u64 1 (IntKind.u64.wrap (wrap64 (a0 - 1)))) bt142.1 bt142.2 10)) else (none)) else (some true)) = some r := H
    have A6 := Aside0.mk A60
    clear A60
    by_cases c7 : t141 = true
    · subst c7
      have H1 : (if 0 ≤ (IntKind.u64.wrap (wrap64 (a0 - 1))) then ((bits_Cmp.f k 9 a0 a1 a2).bind fun bt142 => (cadencelaw01_BitsOrder.l0 k a0 a1 a2 (shl .u64 1 (IntKind.u64.wrap (wrap64 (a0 - 1)))) bt142.1 bt142.2 10)) else (none)) = some r := by rw [if_pos rfl] at H; exact H
      clear H
      have H := H1
      clear H1
      obtain ⟨ji8, hji8⟩ : ∃ j_ : Int, (IntKind.u64.wrap (wrap64 (a0 - 1))) = j_ := ⟨_, rfl⟩
      replace H : (if 0 ≤ (ji8) then ((bits_Cmp.f k 9 a0 a1 a2).bind fun bt142 => (cadencelaw01_BitsOrder.l0 k a0 a1 a2 (shl .u64 1 (ji8)) bt142.1 bt142.2 10)) else (none)) = some r := by first | (rw [hji8] at H; exact H) | (simp only [hji8] at H ⊢; exact H)
      (try rw [hji8] at A4)
      (try rw [hji8] at A6)
      by_cases c9 : 0 ≤ (ji8)
      · rw [if_pos c9] at H
        have c9b0 := eq_true c9
        have c9b1 : decide (0 ≤ (ji8)) = true := decide_eq_true c9
        clear c9
        obtain ⟨ji10, hji10⟩ : ∃ j_ : Int, (shl .u64 1 (ji8)) = j_ := ⟨_, rfl⟩
        replace H : ((bits_Cmp.f k 9 a0 a1 a2).bind fun bt142 => (cadencelaw01_BitsOrder.l0 k a0 a1 a2 ji10 bt142.1 bt142.2 10)) = some r := by first | (rw [hji10] at H; exact H) | (simp only [hji10] at H ⊢; exact H)
        (try rw [hji10] at A4)
        (try rw [hji10] at A6)
        have hji10_ : (IntKind.u64.wrap (1 * 2 ^ min (ji8).toNat 64)) = ji10 := hji10
        have hji10z : (ji8) ≤ 64 → (IntKind.u64.wrap (1 * 2 ^ (ji8).toNat)) = ji10 := shl_small hji10
        have hji10u : (IntKind.u64.wrap (2 ^ min (ji8).toNat 64)) = ji10 := by have h_ := hji10_; rw [Int.one_mul] at h_; exact h_
        have hji10v : (ji8) ≤ 64 → (IntKind.u64.wrap (2 ^ (ji8).toNat)) = ji10 := fun hle_ => by have h_ := hji10z hle_; rw [Int.one_mul] at h_; exact h_
        replace H := Option.bind_eq_some_iff.mp H
        obtain ⟨⟨t142, t143⟩, A110, H⟩ := H
        replace H : (cadencelaw01_BitsOrder.l0 k a0 a1 a2 ji10 t142 t143 10) = some r := H
        have A11 := Aside0.mk A110
        clear A110
        have H' := Aside0.mk H
        clear H
        go_enter Try.func11, Try.ntmps11
        go_wp2_with (first | ((with_reducible refine gate_callee (f := 33) rfl ?_); refine goesL_ (some 21) rfl rfl Try.func33 (by kernel_rfl) rfl #[] rfl (by (try simp only [List.map_toArray, List.map_cons, List.map_nil]); first | done | rfl | (simp only [List.length_drop, List.length_take]; rfl)) ?_; (with_reducible refine (cadencelaw01_alive.calls k  true _ A4.out).mono ?_); rintro e w' ⟨rfl, ⟨nd, rfl⟩⟩; refine ⟨_, rfl, ?_⟩) | ((with_reducible refine gate_callee (f := 15) rfl ?_); refine goesL_ (some 24) rfl rfl Try.func15 (by kernel_rfl) rfl #[.int .i64 a0] rfl (by (try simp only [List.map_toArray, List.map_cons, List.map_nil]); first | done | rfl | (simp only [List.length_drop, List.length_take]; rfl)) ?_; (with_reducible refine (bits_Right.calls a0 true _ A6.out).mono ?_); rintro e w' ⟨rfl, ⟨nd, rfl⟩⟩; refine ⟨_, rfl, ?_⟩) | ((with_reducible refine gate_callee (f := 23) rfl ?_); refine goesL_ (some 34) rfl rfl Try.func23 (by kernel_rfl) rfl #[.int .i64 9, .int .i64 a0, .int .u64 a1, .int .u64 a2] rfl (by (try simp only [List.map_toArray, List.map_cons, List.map_nil]); first | done | rfl | (simp only [List.length_drop, List.length_take]; rfl)) ?_; (with_reducible refine (bits_Cmp.calls k 9 a0 a1 a2 t142 t143 _ A11.out).mono ?_); rintro e w' ⟨rfl, ⟨nd, rfl⟩⟩; refine ⟨_, rfl, ?_⟩))
        go_loopg [10] k (fun kq v10 w' => ∃ (x10_1 : Int), v10 = .int .i64 x10_1 ∧ Aside0 (cadencelaw01_BitsOrder.l0 kq a0 a1 a2 ji10 t142 t143 x10_1 = some r) ∧ Aside0 (kq ≤ k) ∧ Drawn0 w w')
        case atStart => exact ⟨(10), (by first | rfl | (simp; done) | (simp [*]; done)), H', ⟨Nat.le_refl _⟩, by repeat (first | exact Drawn0.refl _ | apply Drawn0.step)⟩
        case round =>
          clear H'
          try clear c1
          try clear c2
          try clear p2
          try clear c3
          try clear c5
          try clear p6
          try clear c7
          try clear c9
          try clear c9b0
          try clear c9b1
          try clear c11
          obtain ⟨x10_1, rfl, HA, HK1, ⟨m1, rfl⟩⟩ := hrel
          cases gk with
          | zero => exact absurd HA.out (by simp [cadencelaw01_BitsOrder.l0])
          | succ k1 =>
            have H := HA.out
            clear HA
            simp only [cadencelaw01_BitsOrder.l0] at H
            by_cases c12 : x10_1 ≤ 12
            · rw [if_pos c12] at H
              have c12b0 : decide (x10_1 ≤ 12) = true := decide_eq_true c12
              clear c12
              replace H := Option.bind_eq_some_iff.mp H
              obtain ⟨⟨t148, t149⟩, A130, H⟩ := H
              replace H : ((bits_Cmp.f k1 x10_1 a0 a2 a1).bind fun bt150 => ((bits_Cmp.f k1 (wrap64 (x10_1 + 1)) a0 a1 a2).bind fun bt152 => (if t148 = true then (cadencelaw01_BitsOrder.j1 k1 a0 a1 a2 ji10 t142 t143 x10_1 t148 t149 bt150.1 bt150.2 bt152.1 bt152.2 (0 + 1)) else (cadencelaw01_BitsOrder.j1 k1 a0 a1 a2 ji10 t142 t143 x10_1 t148 t149 bt150.1 bt150.2 bt152.1 bt152.2 0)))) = some r := H
              have A13 := Aside0.mk A130
              clear A130
              replace H := Option.bind_eq_some_iff.mp H
              obtain ⟨⟨t150, t151⟩, A140, H⟩ := H
              replace H : ((bits_Cmp.f k1 (wrap64 (x10_1 + 1)) a0 a1 a2).bind fun bt152 => (if t148 = true then (cadencelaw01_BitsOrder.j1 k1 a0 a1 a2 ji10 t142 t143 x10_1 t148 t149 t150 t151 bt152.1 bt152.2 (0 + 1)) else (cadencelaw01_BitsOrder.j1 k1 a0 a1 a2 ji10 t142 t143 x10_1 t148 t149 t150 t151 bt152.1 bt152.2 0))) = some r := H
              have A14 := Aside0.mk A140
              clear A140
              replace H := Option.bind_eq_some_iff.mp H
              obtain ⟨⟨t152, t153⟩, A150, H⟩ := H
              replace H : (if t148 = true then (cadencelaw01_BitsOrder.j1 k1 a0 a1 a2 ji10 t142 t143 x10_1 t148 t149 t150 t151 t152 t153 (0 + 1)) else (cadencelaw01_BitsOrder.j1 k1 a0 a1 a2 ji10 t142 t143 x10_1 t148 t149 t150 t151 t152 t153 0)) = some r := H
              have A15 := Aside0.mk A150
              clear A150
              have HC16 := Aside0.mk H
              clear H
              go_upto_if 66 with (first | ((with_reducible refine gate_callee (f := 23) rfl ?_); refine goesL_ (some 46) rfl rfl Try.func23 (by kernel_rfl) rfl #[.int .i64 x10_1, .int .i64 a0, .int .u64 a1, .int .u64 a2] rfl (by (try simp only [List.map_toArray, List.map_cons, List.map_nil]); first | done | rfl | (simp only [List.length_drop, List.length_take]; rfl)) ?_; (with_reducible refine (bits_Cmp.calls k1 x10_1 a0 a1 a2 t148 t149 _ A13.out).mono ?_); rintro e w' ⟨rfl, ⟨nd, rfl⟩⟩; refine ⟨_, rfl, ?_⟩) | ((with_reducible refine gate_callee (f := 23) rfl ?_); refine goesL_ (some 54) rfl rfl Try.func23 (by kernel_rfl) rfl #[.int .i64 x10_1, .int .i64 a0, .int .u64 a2, .int .u64 a1] rfl (by (try simp only [List.map_toArray, List.map_cons, List.map_nil]); first | done | rfl | (simp only [List.length_drop, List.length_take]; rfl)) ?_; (with_reducible refine (bits_Cmp.calls k1 x10_1 a0 a2 a1 t150 t151 _ A14.out).mono ?_); rintro e w' ⟨rfl, ⟨nd, rfl⟩⟩; refine ⟨_, rfl, ?_⟩) | ((with_reducible refine gate_callee (f := 23) rfl ?_); refine goesL_ (some 63) rfl rfl Try.func23 (by kernel_rfl) rfl #[.int .i64 (wrap64 (x10_1 + 1)), .int .i64 a0, .int .u64 a1, .int .u64 a2] rfl (by (try simp only [List.map_toArray, List.map_cons, List.map_nil]); first | done | rfl | (simp only [List.length_drop, List.length_take]; rfl)) ?_; (with_reducible refine (bits_Cmp.calls k1 (wrap64 (x10_1 + 1)) a0 a1 a2 t152 t153 _ A15.out).mono ?_); rintro e w' ⟨rfl, ⟨nd, rfl⟩⟩; refine ⟨_, rfl, ?_⟩))
              (try simp only [Act.put, List.setIfInBounds_toArray, List.set_cons_zero, List.set_cons_succ])
              go_cut [17] (fun v17 wc => ∃ (kq : Nat) (x17_15 : Int), v17 = .int .i64 x17_15 ∧ Aside0 (cadencelaw01_BitsOrder.j1 kq a0 a1 a2 ji10 t142 t143 x10_1 t148 t149 t150 t151 t152 t153 x17_15 = some r) ∧ Aside0 (kq ≤ k1) ∧ Drawn0 w wc)
              case first =>
                have H := HC16.out
                clear HC16
                by_cases c17 : t148 = true
                · subst c17
                  have H1 : (cadencelaw01_BitsOrder.j1 k1 a0 a1 a2 ji10 t142 t143 x10_1 true t149 t150 t151 t152 t153 (0 + 1)) = some r := by rw [if_pos rfl] at H; exact H
                  clear H
                  have H := H1
                  clear H1
                  have H' := Aside0.mk H
                  clear H
                  go_wp2
                  go_meet
                  case rel => exact ⟨_, (0 + 1), (by first | rfl | (simp; done) | (simp [*]; done)), H', ⟨by have := HK1.out; first | omega | exact Nat.le_refl _⟩, by repeat (first | exact Drawn0.refl _ | apply Drawn0.step)⟩
                · replace c17 := Bool.eq_false_iff.mpr c17
                  subst c17
                  have H1 : (cadencelaw01_BitsOrder.j1 k1 a0 a1 a2 ji10 t142 t143 x10_1 false t149 t150 t151 t152 t153 0) = some r := by rw [if_neg (show ¬ (false = true) by decide)] at H; exact H
                  clear H
                  have H := H1
                  clear H1
                  have H' := Aside0.mk H
                  clear H
                  go_wp2
                  go_meet
                  case rel => exact ⟨_, (0), (by first | rfl | (simp; done) | (simp [*]; done)), H', ⟨by have := HK1.out; first | omega | exact Nat.le_refl _⟩, by repeat (first | exact Drawn0.refl _ | apply Drawn0.step)⟩
              case rest =>
                clear HC16
                try clear c1
                try clear c2
                try clear p2
                try clear c3
                try clear c5
                try clear p6
                try clear c7
                try clear c9
                try clear c9b0
                try clear c9b1
                try clear c11
                try clear c12
                try clear c12b0
                try clear c15
                try clear c17
                try clear p2
                try clear p6
                obtain ⟨kq, x17_15, rfl, HA, HJ15, ⟨mc15, rfl⟩⟩ := hcut
                cases kq with
                | zero => exact absurd HA.out (by simp [cadencelaw01_BitsOrder.j1])
                | succ kj15 =>
                  have H := HA.out
                  clear HA
                  simp only [cadencelaw01_BitsOrder.j1] at H
                  have HC18 := Aside0.mk H
                  clear H
                  go_upto_if 69 with (fail)
                  go_cut [17] (fun v17 wc => ∃ (kq : Nat) (x17_17 : Int), v17 = .int .i64 x17_17 ∧ Aside0 (cadencelaw01_BitsOrder.j2 kq a0 a1 a2 ji10 t142 t143 x10_1 t148 t149 t151 t152 t153 x17_17 = some r) ∧ Aside0 (kq ≤ kj15) ∧ Drawn0 w wc)
                  case first =>
                    have H := HC18.out
                    clear HC18
                    by_cases c19 : t150 = true
                    · subst c19
                      have H1 : (cadencelaw01_BitsOrder.j2 kj15 a0 a1 a2 ji10 t142 t143 x10_1 t148 t149 t151 t152 t153 (wrap64 (x17_15 + 1))) = some r := by rw [if_pos rfl] at H; exact H
                      clear H
                      have H := H1
                      clear H1
                      have H' := Aside0.mk H
                      clear H
                      go_wp2
                      go_meet
                      case rel => exact ⟨_, (wrap64 (x17_15 + 1)), (by first | rfl | (simp; done) | (simp [*]; done)), H', ⟨by have := HK1.out; have := HJ15.out; first | omega | exact Nat.le_refl _⟩, by repeat (first | exact Drawn0.refl _ | apply Drawn0.step)⟩
                    · replace c19 := Bool.eq_false_iff.mpr c19
                      subst c19
                      have H1 : (cadencelaw01_BitsOrder.j2 kj15 a0 a1 a2 ji10 t142 t143 x10_1 t148 t149 t151 t152 t153 x17_15) = some r := by rw [if_neg (show ¬ (false = true) by decide)] at H; exact H
                      clear H
                      have H := H1
                      clear H1
                      have H' := Aside0.mk H
                      clear H
                      go_wp2
                      go_meet
                      case rel => exact ⟨_, (x17_15), (by first | rfl | (simp; done) | (simp [*]; done)), H', ⟨by have := HK1.out; have := HJ15.out; first | omega | exact Nat.le_refl _⟩, by repeat (first | exact Drawn0.refl _ | apply Drawn0.step)⟩
                  case rest =>
                    clear HC18
                    try clear c1
                    try clear c2
                    try clear p2
                    try clear c3
                    try clear c5
                    try clear p6
                    try clear c7
                    try clear c9
                    try clear c9b0
                    try clear c9b1
                    try clear c11
                    try clear c12
                    try clear c12b0
                    try clear c15
                    try clear c17
                    try clear c19
                    try clear p2
                    try clear p6
                    obtain ⟨kq, x17_17, rfl, HA, HJ17, ⟨mc17, rfl⟩⟩ := hcut
                    cases kq with
                    | zero => exact absurd HA.out (by simp [cadencelaw01_BitsOrder.j2])
                    | succ kj17 =>
                      have H := HA.out
                      clear HA
                      simp only [cadencelaw01_BitsOrder.j2] at H
                      by_cases c20 : t142 = true
                      · subst c20
                        have H1 : (if t143 = 0 then (if t149 = 0 then (if t151 = 0 then (if t153 = 0 then (if (wrap64 (x17_17 + 1)) = 1 then (if t148 = true then (if (t152 != true) = true then (some false) else (cadencelaw01_BitsOrder.l0 kj17 a0 a1 a2 ji10 true t143 (wrap64 (x10_1 + 2)))) else (if (t152 != true) = true then (some false) else (cadencelaw01_BitsOrder.l0 kj17 a0 a1 a2 ji10 true t143 (wrap64 (x10_1 + 2))))) else (some false)) else (some false)) else (some false)) else (some false)) else (some false)) = some r := by rw [if_pos rfl] at H; exact H
                        clear H
                        have H := H1
                        clear H1
                        by_cases c21 : t143 = 0
                        · rw [if_pos c21] at H
                          have c21b0 : (t143 == 0) = true := beq_iff_eq.mpr c21
                          have c21b1 : (t143 != 0) = false := bne_eq_false_iff_eq.mpr c21
                          clear c21
                          by_cases c22 : t149 = 0
                          · rw [if_pos c22] at H
                            have c22b0 : (t149 == 0) = true := beq_iff_eq.mpr c22
                            have c22b1 : (t149 != 0) = false := bne_eq_false_iff_eq.mpr c22
                            clear c22
                            by_cases c23 : t151 = 0
                            · rw [if_pos c23] at H
                              have c23b0 : (t151 == 0) = true := beq_iff_eq.mpr c23
                              have c23b1 : (t151 != 0) = false := bne_eq_false_iff_eq.mpr c23
                              clear c23
                              by_cases c24 : t153 = 0
                              · rw [if_pos c24] at H
                                have c24b0 : (t153 == 0) = true := beq_iff_eq.mpr c24
                                have c24b1 : (t153 != 0) = false := bne_eq_false_iff_eq.mpr c24
                                clear c24
                                by_cases c25 : (wrap64 (x17_17 + 1)) = 1
                                · rw [if_pos c25] at H
                                  have c25b0 : ((wrap64 (x17_17 + 1)) == 1) = true := beq_iff_eq.mpr c25
                                  have c25b1 : ((wrap64 (x17_17 + 1)) != 1) = false := bne_eq_false_iff_eq.mpr c25
                                  clear c25
                                  by_cases c26 : t148 = true
                                  · subst c26
                                    have H1 : (if (t152 != true) = true then (some false) else (cadencelaw01_BitsOrder.l0 kj17 a0 a1 a2 ji10 true t143 (wrap64 (x10_1 + 2)))) = some r := by rw [if_pos rfl] at H; exact H
                                    clear H
                                    have H := H1
                                    clear H1
                                    by_cases c27 : (t152 != true) = true
                                    · rw [if_pos c27] at H
                                      have c27b0 : (t152 != true) = true := c27
                                      (try (have c27b1 : decide (t152 = true) = false := by simpa using c27))
                                      (try (have c27b2 : (t152 == true) = false := by simpa using c27))
                                      (try (have c27b3 : ¬ (t152 = true) := by simpa using c27))
                                      clear c27
                                      obtain rfl := Option.some.inj H
                                      go_wp2
                                      go_ret
                                      exact ⟨by first | rfl | (simp; done) | (simp only [← hji8, ← hji10] <;> (first | rfl | simp)) | (simp [*]; done), by repeat (first | exact Drawn0.refl _ | apply Drawn0.step)⟩
                                    · rw [if_neg c27] at H
                                      have c27b0 : (t152 != true) = false := by simpa using c27
                                      (try (have c27b1 : decide (t152 = true) = true := by simpa using c27))
                                      (try (have c27b2 : (t152 == true) = true := by simpa using c27))
                                      clear c27
                                      have H' := Aside0.mk H
                                      clear H
                                      go_wp2
                                      go_roundg kj17
                                      case measure => have := HK1.out; have := HJ15.out; have := HJ17.out; omega
                                      case rel => exact ⟨(wrap64 (x10_1 + 2)), (by first | rfl | (simp; done) | (simp [*]; done)), H', ⟨by have := HK1.out; have := HJ15.out; have := HJ17.out; omega⟩, by repeat (first | exact Drawn0.refl _ | apply Drawn0.step)⟩
                                  · replace c26 := Bool.eq_false_iff.mpr c26
                                    subst c26
                                    have H1 : (if (t152 != true) = true then (some false) else (cadencelaw01_BitsOrder.l0 kj17 a0 a1 a2 ji10 true t143 (wrap64 (x10_1 + 2)))) = some r := by rw [if_neg (show ¬ (false = true) by decide)] at H; exact H
                                    clear H
                                    have H := H1
                                    clear H1
                                    by_cases c28 : (t152 != true) = true
                                    · rw [if_pos c28] at H
                                      have c28b0 : (t152 != true) = true := c28
                                      (try (have c28b1 : decide (t152 = true) = false := by simpa using c28))
                                      (try (have c28b2 : (t152 == true) = false := by simpa using c28))
                                      (try (have c28b3 : ¬ (t152 = true) := by simpa using c28))
                                      clear c28
                                      obtain rfl := Option.some.inj H
                                      go_wp2
                                      go_ret
                                      exact ⟨by first | rfl | (simp; done) | (simp only [← hji8, ← hji10] <;> (first | rfl | simp)) | (simp [*]; done), by repeat (first | exact Drawn0.refl _ | apply Drawn0.step)⟩
                                    · rw [if_neg c28] at H
                                      have c28b0 : (t152 != true) = false := by simpa using c28
                                      (try (have c28b1 : decide (t152 = true) = true := by simpa using c28))
                                      (try (have c28b2 : (t152 == true) = true := by simpa using c28))
                                      clear c28
                                      have H' := Aside0.mk H
                                      clear H
                                      go_wp2
                                      go_roundg kj17
                                      case measure => have := HK1.out; have := HJ15.out; have := HJ17.out; omega
                                      case rel => exact ⟨(wrap64 (x10_1 + 2)), (by first | rfl | (simp; done) | (simp [*]; done)), H', ⟨by have := HK1.out; have := HJ15.out; have := HJ17.out; omega⟩, by repeat (first | exact Drawn0.refl _ | apply Drawn0.step)⟩
                                · rw [if_neg c25] at H
                                  have c25b0 : ((wrap64 (x17_17 + 1)) == 1) = false := beq_eq_false_iff_ne.mpr c25
                                  have c25b1 : ((wrap64 (x17_17 + 1)) != 1) = true := bne_iff_ne.mpr c25
                                  obtain rfl := Option.some.inj H
                                  go_wp2
                                  go_ret
                                  exact ⟨by first | rfl | (simp; done) | (simp only [← hji8, ← hji10] <;> (first | rfl | simp)) | (simp [*]; done), by repeat (first | exact Drawn0.refl _ | apply Drawn0.step)⟩
                              · rw [if_neg c24] at H
                                have c24b0 : (t153 == 0) = false := beq_eq_false_iff_ne.mpr c24
                                have c24b1 : (t153 != 0) = true := bne_iff_ne.mpr c24
                                obtain rfl := Option.some.inj H
                                go_wp2
                                go_ret
                                exact ⟨by first | rfl | (simp; done) | (simp only [← hji8, ← hji10] <;> (first | rfl | simp)) | (simp [*]; done), by repeat (first | exact Drawn0.refl _ | apply Drawn0.step)⟩
                            · rw [if_neg c23] at H
                              have c23b0 : (t151 == 0) = false := beq_eq_false_iff_ne.mpr c23
                              have c23b1 : (t151 != 0) = true := bne_iff_ne.mpr c23
                              obtain rfl := Option.some.inj H
                              go_wp2
                              go_ret
                              exact ⟨by first | rfl | (simp; done) | (simp only [← hji8, ← hji10] <;> (first | rfl | simp)) | (simp [*]; done), by repeat (first | exact Drawn0.refl _ | apply Drawn0.step)⟩
                          · rw [if_neg c22] at H
                            have c22b0 : (t149 == 0) = false := beq_eq_false_iff_ne.mpr c22
                            have c22b1 : (t149 != 0) = true := bne_iff_ne.mpr c22
                            obtain rfl := Option.some.inj H
                            go_wp2
                            go_ret
                            exact ⟨by first | rfl | (simp; done) | (simp only [← hji8, ← hji10] <;> (first | rfl | simp)) | (simp [*]; done), by repeat (first | exact Drawn0.refl _ | apply Drawn0.step)⟩
                        · rw [if_neg c21] at H
                          have c21b0 : (t143 == 0) = false := beq_eq_false_iff_ne.mpr c21
                          have c21b1 : (t143 != 0) = true := bne_iff_ne.mpr c21
                          obtain rfl := Option.some.inj H
                          go_wp2
                          go_ret
                          exact ⟨by first | rfl | (simp; done) | (simp only [← hji8, ← hji10] <;> (first | rfl | simp)) | (simp [*]; done), by repeat (first | exact Drawn0.refl _ | apply Drawn0.step)⟩
                      · replace c20 := Bool.eq_false_iff.mpr c20
                        subst c20
                        have H1 : (if t143 = 0 then (if t149 = 0 then (if t151 = 0 then (if t153 = 0 then (if x17_17 = 1 then (if t148 = true then (if (t152 != true) = true then (some false) else (cadencelaw01_BitsOrder.l0 kj17 a0 a1 a2 ji10 false t143 (wrap64 (x10_1 + 2)))) else (if (t152 != false) = true then (some false) else (cadencelaw01_BitsOrder.l0 kj17 a0 a1 a2 ji10 false t143 (wrap64 (x10_1 + 2))))) else (some false)) else (some false)) else (some false)) else (some false)) else (some false)) = some r := by rw [if_neg (show ¬ (false = true) by decide)] at H; exact H
                        clear H
                        have H := H1
                        clear H1
                        by_cases c29 : t143 = 0
                        · rw [if_pos c29] at H
                          have c29b0 : (t143 == 0) = true := beq_iff_eq.mpr c29
                          have c29b1 : (t143 != 0) = false := bne_eq_false_iff_eq.mpr c29
                          clear c29
                          by_cases c30 : t149 = 0
                          · rw [if_pos c30] at H
                            have c30b0 : (t149 == 0) = true := beq_iff_eq.mpr c30
                            have c30b1 : (t149 != 0) = false := bne_eq_false_iff_eq.mpr c30
                            clear c30
                            by_cases c31 : t151 = 0
                            · rw [if_pos c31] at H
                              have c31b0 : (t151 == 0) = true := beq_iff_eq.mpr c31
                              have c31b1 : (t151 != 0) = false := bne_eq_false_iff_eq.mpr c31
                              clear c31
                              by_cases c32 : t153 = 0
                              · rw [if_pos c32] at H
                                have c32b0 : (t153 == 0) = true := beq_iff_eq.mpr c32
                                have c32b1 : (t153 != 0) = false := bne_eq_false_iff_eq.mpr c32
                                clear c32
                                by_cases c33 : x17_17 = 1
                                · rw [if_pos c33] at H
                                  have c33b0 : (x17_17 == 1) = true := beq_iff_eq.mpr c33
                                  have c33b1 : (x17_17 != 1) = false := bne_eq_false_iff_eq.mpr c33
                                  clear c33
                                  by_cases c34 : t148 = true
                                  · subst c34
                                    have H1 : (if (t152 != true) = true then (some false) else (cadencelaw01_BitsOrder.l0 kj17 a0 a1 a2 ji10 false t143 (wrap64 (x10_1 + 2)))) = some r := by rw [if_pos rfl] at H; exact H
                                    clear H
                                    have H := H1
                                    clear H1
                                    by_cases c35 : (t152 != true) = true
                                    · rw [if_pos c35] at H
                                      have c35b0 : (t152 != true) = true := c35
                                      (try (have c35b1 : decide (t152 = true) = false := by simpa using c35))
                                      (try (have c35b2 : (t152 == true) = false := by simpa using c35))
                                      (try (have c35b3 : ¬ (t152 = true) := by simpa using c35))
                                      clear c35
                                      obtain rfl := Option.some.inj H
                                      go_wp2
                                      go_ret
                                      exact ⟨by first | rfl | (simp; done) | (simp only [← hji8, ← hji10] <;> (first | rfl | simp)) | (simp [*]; done), by repeat (first | exact Drawn0.refl _ | apply Drawn0.step)⟩
                                    · rw [if_neg c35] at H
                                      have c35b0 : (t152 != true) = false := by simpa using c35
                                      (try (have c35b1 : decide (t152 = true) = true := by simpa using c35))
                                      (try (have c35b2 : (t152 == true) = true := by simpa using c35))
                                      clear c35
                                      have H' := Aside0.mk H
                                      clear H
                                      go_wp2
                                      go_roundg kj17
                                      case measure => have := HK1.out; have := HJ15.out; have := HJ17.out; omega
                                      case rel => exact ⟨(wrap64 (x10_1 + 2)), (by first | rfl | (simp; done) | (simp [*]; done)), H', ⟨by have := HK1.out; have := HJ15.out; have := HJ17.out; omega⟩, by repeat (first | exact Drawn0.refl _ | apply Drawn0.step)⟩
                                  · replace c34 := Bool.eq_false_iff.mpr c34
                                    subst c34
                                    have H1 : (if (t152 != false) = true then (some false) else (cadencelaw01_BitsOrder.l0 kj17 a0 a1 a2 ji10 false t143 (wrap64 (x10_1 + 2)))) = some r := by rw [if_neg (show ¬ (false = true) by decide)] at H; exact H
                                    clear H
                                    have H := H1
                                    clear H1
                                    by_cases c36 : (t152 != false) = true
                                    · rw [if_pos c36] at H
                                      have c36b0 : (t152 != false) = true := c36
                                      (try (have c36b1 : decide (t152 = false) = false := by simpa using c36))
                                      (try (have c36b2 : (t152 == false) = false := by simpa using c36))
                                      (try (have c36b3 : ¬ (t152 = false) := by simpa using c36))
                                      clear c36
                                      obtain rfl := Option.some.inj H
                                      go_wp2
                                      go_ret
                                      exact ⟨by first | rfl | (simp; done) | (simp only [← hji8, ← hji10] <;> (first | rfl | simp)) | (simp [*]; done), by repeat (first | exact Drawn0.refl _ | apply Drawn0.step)⟩
                                    · rw [if_neg c36] at H
                                      have c36b0 : (t152 != false) = false := by simpa using c36
                                      (try (have c36b1 : decide (t152 = false) = true := by simpa using c36))
                                      (try (have c36b2 : (t152 == false) = true := by simpa using c36))
                                      clear c36
                                      have H' := Aside0.mk H
                                      clear H
                                      go_wp2
                                      go_roundg kj17
                                      case measure => have := HK1.out; have := HJ15.out; have := HJ17.out; omega
                                      case rel => exact ⟨(wrap64 (x10_1 + 2)), (by first | rfl | (simp; done) | (simp [*]; done)), H', ⟨by have := HK1.out; have := HJ15.out; have := HJ17.out; omega⟩, by repeat (first | exact Drawn0.refl _ | apply Drawn0.step)⟩
                                · rw [if_neg c33] at H
                                  have c33b0 : (x17_17 == 1) = false := beq_eq_false_iff_ne.mpr c33
                                  have c33b1 : (x17_17 != 1) = true := bne_iff_ne.mpr c33
                                  obtain rfl := Option.some.inj H
                                  go_wp2
                                  go_ret
                                  exact ⟨by first | rfl | (simp; done) | (simp only [← hji8, ← hji10] <;> (first | rfl | simp)) | (simp [*]; done), by repeat (first | exact Drawn0.refl _ | apply Drawn0.step)⟩
                              · rw [if_neg c32] at H
                                have c32b0 : (t153 == 0) = false := beq_eq_false_iff_ne.mpr c32
                                have c32b1 : (t153 != 0) = true := bne_iff_ne.mpr c32
                                obtain rfl := Option.some.inj H
                                go_wp2
                                go_ret
                                exact ⟨by first | rfl | (simp; done) | (simp only [← hji8, ← hji10] <;> (first | rfl | simp)) | (simp [*]; done), by repeat (first | exact Drawn0.refl _ | apply Drawn0.step)⟩
                            · rw [if_neg c31] at H
                              have c31b0 : (t151 == 0) = false := beq_eq_false_iff_ne.mpr c31
                              have c31b1 : (t151 != 0) = true := bne_iff_ne.mpr c31
                              obtain rfl := Option.some.inj H
                              go_wp2
                              go_ret
                              exact ⟨by first | rfl | (simp; done) | (simp only [← hji8, ← hji10] <;> (first | rfl | simp)) | (simp [*]; done), by repeat (first | exact Drawn0.refl _ | apply Drawn0.step)⟩
                          · rw [if_neg c30] at H
                            have c30b0 : (t149 == 0) = false := beq_eq_false_iff_ne.mpr c30
                            have c30b1 : (t149 != 0) = true := bne_iff_ne.mpr c30
                            obtain rfl := Option.some.inj H
                            go_wp2
                            go_ret
                            exact ⟨by first | rfl | (simp; done) | (simp only [← hji8, ← hji10] <;> (first | rfl | simp)) | (simp [*]; done), by repeat (first | exact Drawn0.refl _ | apply Drawn0.step)⟩
                        · rw [if_neg c29] at H
                          have c29b0 : (t143 == 0) = false := beq_eq_false_iff_ne.mpr c29
                          have c29b1 : (t143 != 0) = true := bne_iff_ne.mpr c29
                          obtain rfl := Option.some.inj H
                          go_wp2
                          go_ret
                          exact ⟨by first | rfl | (simp; done) | (simp only [← hji8, ← hji10] <;> (first | rfl | simp)) | (simp [*]; done), by repeat (first | exact Drawn0.refl _ | apply Drawn0.step)⟩
            · rw [if_neg c12] at H
              have c12b0 : decide (x10_1 ≤ 12) = false := decide_eq_false c12
              clear c12
              replace H := Option.bind_eq_some_iff.mp H
              obtain ⟨⟨t144, t145⟩, A370, H⟩ := H
              replace H : ((bits_Cmp.f k1 10 a0 (Go.bits .xor .u64 a1 ji10) (Go.bits .xor .u64 a2 ji10)).bind fun bt146 => (if t145 = 0 then (if bt146.2 = 0 then (some (t144 == bt146.1)) else (some false)) else (some false))) = some r := H
              have A37 := Aside0.mk A370
              clear A370
              replace H := Option.bind_eq_some_iff.mp H
              obtain ⟨⟨t146, t147⟩, A380, H⟩ := H
              replace H : (if t145 = 0 then (if t147 = 0 then (some (t144 == t146)) else (some false)) else (some false)) = some r := H
              have A38 := Aside0.mk A380
              clear A380
              by_cases c39 : t145 = 0
              · rw [if_pos c39] at H
                have c39b0 : (t145 == 0) = true := beq_iff_eq.mpr c39
                have c39b1 : (t145 != 0) = false := bne_eq_false_iff_eq.mpr c39
                clear c39
                by_cases c40 : t147 = 0
                · rw [if_pos c40] at H
                  have c40b0 : (t147 == 0) = true := beq_iff_eq.mpr c40
                  have c40b1 : (t147 != 0) = false := bne_eq_false_iff_eq.mpr c40
                  clear c40
                  obtain rfl := Option.some.inj H
                  go_wp2_with (first | ((with_reducible refine gate_callee (f := 23) rfl ?_); refine goesL_ (some 105) rfl rfl Try.func23 (by kernel_rfl) rfl #[.int .i64 12, .int .i64 a0, .int .u64 a1, .int .u64 a2] rfl (by (try simp only [List.map_toArray, List.map_cons, List.map_nil]); first | done | rfl | (simp only [List.length_drop, List.length_take]; rfl)) ?_; (with_reducible refine (bits_Cmp.calls k1 12 a0 a1 a2 t144 t145 _ A37.out).mono ?_); rintro e w' ⟨rfl, ⟨nd, rfl⟩⟩; refine ⟨_, rfl, ?_⟩) | ((with_reducible refine gate_callee (f := 23) rfl ?_); refine goesL_ (some 116) rfl rfl Try.func23 (by kernel_rfl) rfl #[.int .i64 10, .int .i64 a0, .int .u64 (Go.bits .xor .u64 a1 ji10), .int .u64 (Go.bits .xor .u64 a2 ji10)] rfl (by (try simp only [List.map_toArray, List.map_cons, List.map_nil]); first | done | (simp only [hji10]; rfl) | rfl | (simp only [List.length_drop, List.length_take]; rfl)) ?_; (with_reducible refine (bits_Cmp.calls k1 10 a0 (Go.bits .xor .u64 a1 ji10) (Go.bits .xor .u64 a2 ji10) t146 t147 _ A38.out).mono ?_); rintro e w' ⟨rfl, ⟨nd, rfl⟩⟩; refine ⟨_, rfl, ?_⟩))
                  go_ret
                  exact ⟨by first | rfl | (simp; done) | (simp only [← hji8, ← hji10] <;> (first | rfl | simp)) | (simp [*]; done), by repeat (first | exact Drawn0.refl _ | apply Drawn0.step)⟩
                · rw [if_neg c40] at H
                  have c40b0 : (t147 == 0) = false := beq_eq_false_iff_ne.mpr c40
                  have c40b1 : (t147 != 0) = true := bne_iff_ne.mpr c40
                  obtain rfl := Option.some.inj H
                  go_wp2_with (first | ((with_reducible refine gate_callee (f := 23) rfl ?_); refine goesL_ (some 105) rfl rfl Try.func23 (by kernel_rfl) rfl #[.int .i64 12, .int .i64 a0, .int .u64 a1, .int .u64 a2] rfl (by (try simp only [List.map_toArray, List.map_cons, List.map_nil]); first | done | rfl | (simp only [List.length_drop, List.length_take]; rfl)) ?_; (with_reducible refine (bits_Cmp.calls k1 12 a0 a1 a2 t144 t145 _ A37.out).mono ?_); rintro e w' ⟨rfl, ⟨nd, rfl⟩⟩; refine ⟨_, rfl, ?_⟩) | ((with_reducible refine gate_callee (f := 23) rfl ?_); refine goesL_ (some 116) rfl rfl Try.func23 (by kernel_rfl) rfl #[.int .i64 10, .int .i64 a0, .int .u64 (Go.bits .xor .u64 a1 ji10), .int .u64 (Go.bits .xor .u64 a2 ji10)] rfl (by (try simp only [List.map_toArray, List.map_cons, List.map_nil]); first | done | (simp only [hji10]; rfl) | rfl | (simp only [List.length_drop, List.length_take]; rfl)) ?_; (with_reducible refine (bits_Cmp.calls k1 10 a0 (Go.bits .xor .u64 a1 ji10) (Go.bits .xor .u64 a2 ji10) t146 t147 _ A38.out).mono ?_); rintro e w' ⟨rfl, ⟨nd, rfl⟩⟩; refine ⟨_, rfl, ?_⟩))
                  go_ret
                  exact ⟨by first | rfl | (simp; done) | (simp only [← hji8, ← hji10] <;> (first | rfl | simp)) | (simp [*]; done), by repeat (first | exact Drawn0.refl _ | apply Drawn0.step)⟩
              · rw [if_neg c39] at H
                have c39b0 : (t145 == 0) = false := beq_eq_false_iff_ne.mpr c39
                have c39b1 : (t145 != 0) = true := bne_iff_ne.mpr c39
                obtain rfl := Option.some.inj H
                go_wp2_with (first | ((with_reducible refine gate_callee (f := 23) rfl ?_); refine goesL_ (some 105) rfl rfl Try.func23 (by kernel_rfl) rfl #[.int .i64 12, .int .i64 a0, .int .u64 a1, .int .u64 a2] rfl (by (try simp only [List.map_toArray, List.map_cons, List.map_nil]); first | done | rfl | (simp only [List.length_drop, List.length_take]; rfl)) ?_; (with_reducible refine (bits_Cmp.calls k1 12 a0 a1 a2 t144 t145 _ A37.out).mono ?_); rintro e w' ⟨rfl, ⟨nd, rfl⟩⟩; refine ⟨_, rfl, ?_⟩) | ((with_reducible refine gate_callee (f := 23) rfl ?_); refine goesL_ (some 116) rfl rfl Try.func23 (by kernel_rfl) rfl #[.int .i64 10, .int .i64 a0, .int .u64 (Go.bits .xor .u64 a1 ji10), .int .u64 (Go.bits .xor .u64 a2 ji10)] rfl (by (try simp only [List.map_toArray, List.map_cons, List.map_nil]); first | done | (simp only [hji10]; rfl) | rfl | (simp only [List.length_drop, List.length_take]; rfl)) ?_; (with_reducible refine (bits_Cmp.calls k1 10 a0 (Go.bits .xor .u64 a1 ji10) (Go.bits .xor .u64 a2 ji10) t146 t147 _ A38.out).mono ?_); rintro e w' ⟨rfl, ⟨nd, rfl⟩⟩; refine ⟨_, rfl, ?_⟩))
                go_ret
                exact ⟨by first | rfl | (simp; done) | (simp only [← hji8, ← hji10] <;> (first | rfl | simp)) | (simp [*]; done), by repeat (first | exact Drawn0.refl _ | apply Drawn0.step)⟩
      · rw [if_neg c9] at H
        exact absurd H (by simp)
    · replace c7 := Bool.eq_false_iff.mpr c7
      subst c7
      have H1 : (some true) = some r := by rw [if_neg (show ¬ (false = true) by decide)] at H; exact H
      clear H
      have H := H1
      clear H1
      obtain rfl := Option.some.inj H
      go_enter Try.func11, Try.ntmps11
      go_wp2_with (first | ((with_reducible refine gate_callee (f := 33) rfl ?_); refine goesL_ (some 21) rfl rfl Try.func33 (by kernel_rfl) rfl #[] rfl (by (try simp only [List.map_toArray, List.map_cons, List.map_nil]); first | done | rfl | (simp only [List.length_drop, List.length_take]; rfl)) ?_; (with_reducible refine (cadencelaw01_alive.calls k  true _ A4.out).mono ?_); rintro e w' ⟨rfl, ⟨nd, rfl⟩⟩; refine ⟨_, rfl, ?_⟩) | ((with_reducible refine gate_callee (f := 15) rfl ?_); refine goesL_ (some 24) rfl rfl Try.func15 (by kernel_rfl) rfl #[.int .i64 a0] rfl (by (try simp only [List.map_toArray, List.map_cons, List.map_nil]); first | done | rfl | (simp only [List.length_drop, List.length_take]; rfl)) ?_; (with_reducible refine (bits_Right.calls a0 false _ A6.out).mono ?_); rintro e w' ⟨rfl, ⟨nd, rfl⟩⟩; refine ⟨_, rfl, ?_⟩))
      go_ret
      exact ⟨by first | rfl | (simp; done) | (simp [*]; done), by repeat (first | exact Drawn0.refl _ | apply Drawn0.step)⟩
  · replace c5 := Bool.eq_false_iff.mpr c5
    subst c5
    have H1 : (some false) = some r := by rw [if_neg (show ¬ (false = true) by decide)] at H; exact H
    clear H
    have H := H1
    clear H1
    obtain rfl := Option.some.inj H
    go_enter Try.func11, Try.ntmps11
    go_wp2_with (first | ((with_reducible refine gate_callee (f := 33) rfl ?_); refine goesL_ (some 21) rfl rfl Try.func33 (by kernel_rfl) rfl #[] rfl (by (try simp only [List.map_toArray, List.map_cons, List.map_nil]); first | done | rfl | (simp only [List.length_drop, List.length_take]; rfl)) ?_; (with_reducible refine (cadencelaw01_alive.calls k  false _ A4.out).mono ?_); rintro e w' ⟨rfl, ⟨nd, rfl⟩⟩; refine ⟨_, rfl, ?_⟩))
    go_ret
    exact ⟨by first | rfl | (simp; done) | (simp [*]; done), by repeat (first | exact Drawn0.refl _ | apply Drawn0.step)⟩

/-- THE ONE PURE STATEMENT of cadencelaw01_BitsOrder: yours. -/
def cadencelaw01_BitsOrder.Pure : Prop := ∀ (a0 : Int) (a1 : Int) (a2 : Int), (Lit.int .i64 a0).wf = true → (Lit.int .u64 a1).wf = true → (Lit.int .u64 a2).wf = true → ∃ k, cadencelaw01_BitsOrder.f k a0 a1 a2 = some true
theorem cadencelaw01_BitsOrder.walk (P : cadencelaw01_BitsOrder.Pure) (a0 : Int) (a1 : Int) (a2 : Int) (w : World) (w0 : (Lit.int .i64 a0).wf = true) (w1 : (Lit.int .u64 a1).wf = true) (w2 : (Lit.int .u64 a2).wf = true) :
    Calls Try.prog 11 #[.int .i64 a0, .int .u64 a1, .int .u64 a2] w fun e w' => e = .returned (.bool true) ∧ Below w.heap.size w w' := by
  obtain ⟨k, h⟩ := P a0 a1 a2 w0 w1 w2
  refine (cadencelaw01_BitsOrder.calls k a0 a1 a2 true w h).mono ?_
  rintro e w' ⟨rfl, hd⟩
  exact ⟨rfl, hd.below⟩

/-! ### cadencelaw01_BitsJoined: function 12 -/
mutual
def cadencelaw01_BitsJoined.j0 : Nat → Int → Int → Int → Int → Bool → Option (Bool)
  | 0, _, _, _, _, _ => none
  | k + 1, x0, x1, x2, x3, x25 => if x25 = true then (some true) else (if (wrap64 (x0 - 1)) = 0 then (none) else ((bits_Trim.f x0 x1).bind fun t148 => ((bits_Slice.f k x0 t148 0 (wrap64 (1 + (Int.tmod (wrap64 ((wrap64 ((Int.tmod x2 (wrap64 (x0 - 1))) + x0)) - 1)) (wrap64 (x0 - 1)))))).bind fun bt149 => ((bits_Slice.f k x0 t148 (wrap64 (1 + (Int.tmod (wrap64 ((wrap64 ((Int.tmod x2 (wrap64 (x0 - 1))) + x0)) - 1)) (wrap64 (x0 - 1))))) (wrap64 (x0 - (wrap64 (1 + (Int.tmod (wrap64 ((wrap64 ((Int.tmod x2 (wrap64 (x0 - 1))) + x0)) - 1)) (wrap64 (x0 - 1)))))))).bind fun bt151 => ((bits_Cat.f k (wrap64 (x0 - (wrap64 (1 + (Int.tmod (wrap64 ((wrap64 ((Int.tmod x2 (wrap64 (x0 - 1))) + x0)) - 1)) (wrap64 (x0 - 1))))))) bt151.1 (wrap64 (1 + (Int.tmod (wrap64 ((wrap64 ((Int.tmod x2 (wrap64 (x0 - 1))) + x0)) - 1)) (wrap64 (x0 - 1))))) bt149.1).bind fun bt153 => (if bt149.2 = 0 then (if bt151.2 = 0 then (if bt153.2 = 0 then (cadencelaw01_BitsJoined.j1 k x0 t148 x3 (bt153.1 != t148)) else (cadencelaw01_BitsJoined.j1 k x0 t148 x3 true)) else (cadencelaw01_BitsJoined.j1 k x0 t148 x3 true)) else (cadencelaw01_BitsJoined.j1 k x0 t148 x3 true)))))))
def cadencelaw01_BitsJoined.j1 : Nat → Int → Int → Int → Bool → Option (Bool)
  | 0, _, _, _, _ => none
  | k + 1, x0, x1, x3, x81 => if x81 = true then (some false) else (if x3 < x0 then (cadencelaw01_BitsJoined.j2 k x0 x1 x3 true) else (cadencelaw01_BitsJoined.j2 k x0 x1 x3 (decide (x3 > 64))))
def cadencelaw01_BitsJoined.j2 : Nat → Int → Int → Int → Bool → Option (Bool)
  | 0, _, _, _, _ => none
  | k + 1, x0, x1, x3, x88 => if x88 = true then ((bits_Ext.f k 33 x0 x1 x3).bind fun bt155 => (some (bt155.2 == 5))) else ((bits_Ext.f k 33 x0 x1 x3).bind fun bt157 => ((bits_Ext.f k 32 x0 x1 x3).bind fun bt159 => (if bt157.2 = 0 then (if bt159.2 = 0 then ((bits_Signed.f x3 bt157.1).bind fun t161 => ((bits_Signed.f x0 x1).bind fun t162 => (if t161 = t162 then (if bt159.1 = x1 then ((bits_Trim.f x0 bt157.1).bind fun t163 => (some (t163 == x1))) else (some false)) else (some false)))) else (some false)) else (some false))))
end
def cadencelaw01_BitsJoined.f (k : Nat) (a0 : Int) (a1 : Int) (a2 : Int) (a3 : Int) : Option (Bool) := (cadencelaw01_alive.f k).bind fun t147 => (if t147 = true then (if a0 < 2 then (cadencelaw01_BitsJoined.j0 k a0 a1 a2 a3 true) else (cadencelaw01_BitsJoined.j0 k a0 a1 a2 a3 (decide (a0 > 64)))) else (some false))
theorem cadencelaw01_BitsJoined.mono_l : ∀ k, (∀ y0 y1 y2 y3 y4, LeO (cadencelaw01_BitsJoined.j0 k y0 y1 y2 y3 y4) (cadencelaw01_BitsJoined.j0 (k + 1) y0 y1 y2 y3 y4)) ∧ (∀ y0 y1 y2 y3, LeO (cadencelaw01_BitsJoined.j1 k y0 y1 y2 y3) (cadencelaw01_BitsJoined.j1 (k + 1) y0 y1 y2 y3)) ∧ (∀ y0 y1 y2 y3, LeO (cadencelaw01_BitsJoined.j2 k y0 y1 y2 y3) (cadencelaw01_BitsJoined.j2 (k + 1) y0 y1 y2 y3))
  | 0 => ⟨fun _ _ _ _ _ r h => by simp [cadencelaw01_BitsJoined.j0] at h, fun _ _ _ _ r h => by simp [cadencelaw01_BitsJoined.j1] at h, fun _ _ _ _ r h => by simp [cadencelaw01_BitsJoined.j2] at h⟩
  | k + 1 => by
    obtain ⟨ih0, ih1, ih2⟩ := cadencelaw01_BitsJoined.mono_l k
    refine ⟨?_, ?_, ?_⟩
    · intro y0 y1 y2 y3 y4
      unfold cadencelaw01_BitsJoined.j0
      repeat' first
      | (with_reducible exact ih0 _ _ _ _ _)
      | (with_reducible exact ih1 _ _ _ _)
      | (with_reducible exact ih2 _ _ _ _)
      | (with_reducible exact bits_Cat.mono _ _ _ _ _)
      | (with_reducible exact bits_Ext.mono _ _ _ _ _)
      | (with_reducible exact bits_Slice.mono _ _ _ _ _)
      | (with_reducible exact cadencelaw01_alive.mono _)
      | (with_reducible exact LeO.refl _)
      | (with_reducible exact LeO.none _)
      | (with_reducible refine LeO.ite ?_ ?_)
      | (with_reducible refine LeO.bind ?_ (fun _ => ?_))
      | exact ih0 _ _ _ _ _
      | exact ih1 _ _ _ _
      | exact ih2 _ _ _ _
      | exact bits_Cat.mono _ _ _ _ _
      | exact bits_Ext.mono _ _ _ _ _
      | exact bits_Slice.mono _ _ _ _ _
      | exact cadencelaw01_alive.mono _
      | exact LeO.none _
      | refine LeO.ite ?_ ?_
      | refine LeO.bind ?_ (fun _ => ?_)
    · intro y0 y1 y2 y3
      unfold cadencelaw01_BitsJoined.j1
      repeat' first
      | (with_reducible exact ih0 _ _ _ _ _)
      | (with_reducible exact ih1 _ _ _ _)
      | (with_reducible exact ih2 _ _ _ _)
      | (with_reducible exact bits_Cat.mono _ _ _ _ _)
      | (with_reducible exact bits_Ext.mono _ _ _ _ _)
      | (with_reducible exact bits_Slice.mono _ _ _ _ _)
      | (with_reducible exact cadencelaw01_alive.mono _)
      | (with_reducible exact LeO.refl _)
      | (with_reducible exact LeO.none _)
      | (with_reducible refine LeO.ite ?_ ?_)
      | (with_reducible refine LeO.bind ?_ (fun _ => ?_))
      | exact ih0 _ _ _ _ _
      | exact ih1 _ _ _ _
      | exact ih2 _ _ _ _
      | exact bits_Cat.mono _ _ _ _ _
      | exact bits_Ext.mono _ _ _ _ _
      | exact bits_Slice.mono _ _ _ _ _
      | exact cadencelaw01_alive.mono _
      | exact LeO.none _
      | refine LeO.ite ?_ ?_
      | refine LeO.bind ?_ (fun _ => ?_)
    · intro y0 y1 y2 y3
      unfold cadencelaw01_BitsJoined.j2
      repeat' first
      | (with_reducible exact ih0 _ _ _ _ _)
      | (with_reducible exact ih1 _ _ _ _)
      | (with_reducible exact ih2 _ _ _ _)
      | (with_reducible exact bits_Cat.mono _ _ _ _ _)
      | (with_reducible exact bits_Ext.mono _ _ _ _ _)
      | (with_reducible exact bits_Slice.mono _ _ _ _ _)
      | (with_reducible exact cadencelaw01_alive.mono _)
      | (with_reducible exact LeO.refl _)
      | (with_reducible exact LeO.none _)
      | (with_reducible refine LeO.ite ?_ ?_)
      | (with_reducible refine LeO.bind ?_ (fun _ => ?_))
      | exact ih0 _ _ _ _ _
      | exact ih1 _ _ _ _
      | exact ih2 _ _ _ _
      | exact bits_Cat.mono _ _ _ _ _
      | exact bits_Ext.mono _ _ _ _ _
      | exact bits_Slice.mono _ _ _ _ _
      | exact cadencelaw01_alive.mono _
      | exact LeO.none _
      | refine LeO.ite ?_ ?_
      | refine LeO.bind ?_ (fun _ => ?_)
theorem cadencelaw01_BitsJoined.mono : ∀ a0 a1 a2 a3 k, LeO (cadencelaw01_BitsJoined.f k a0 a1 a2 a3) (cadencelaw01_BitsJoined.f (k + 1) a0 a1 a2 a3) := by
  intro a0 a1 a2 a3 k
  obtain ⟨ih0, ih1, ih2⟩ := cadencelaw01_BitsJoined.mono_l k
  unfold cadencelaw01_BitsJoined.f
  repeat' first
      | (with_reducible exact ih0 _ _ _ _ _)
      | (with_reducible exact ih1 _ _ _ _)
      | (with_reducible exact ih2 _ _ _ _)
      | (with_reducible exact bits_Cat.mono _ _ _ _ _)
      | (with_reducible exact bits_Ext.mono _ _ _ _ _)
      | (with_reducible exact bits_Slice.mono _ _ _ _ _)
      | (with_reducible exact cadencelaw01_alive.mono _)
      | (with_reducible exact LeO.refl _)
      | (with_reducible exact LeO.none _)
      | (with_reducible refine LeO.ite ?_ ?_)
      | (with_reducible refine LeO.bind ?_ (fun _ => ?_))
      | exact ih0 _ _ _ _ _
      | exact ih1 _ _ _ _
      | exact ih2 _ _ _ _
      | exact bits_Cat.mono _ _ _ _ _
      | exact bits_Ext.mono _ _ _ _ _
      | exact bits_Slice.mono _ _ _ _ _
      | exact cadencelaw01_alive.mono _
      | exact LeO.none _
      | refine LeO.ite ?_ ?_
      | refine LeO.bind ?_ (fun _ => ?_)
set_option maxHeartbeats 8000000 in
set_option maxRecDepth 100000 in
theorem cadencelaw01_BitsJoined.calls (k : Nat) (a0 : Int) (a1 : Int) (a2 : Int) (a3 : Int) (r : Bool) (w : World) (h : cadencelaw01_BitsJoined.f k a0 a1 a2 a3 = some r) :
    Calls Try.prog 12 #[.int .i64 a0, .int .u64 a1, .int .i64 a2, .int .i64 a3] w fun e w' => e = .returned (.bool r) ∧ Drawn0 w w' := by
  have H : ((cadencelaw01_alive.f k).bind fun t147 => (if t147 = true then (if a0 < 2 then (cadencelaw01_BitsJoined.j0 k a0 a1 a2 a3 true) else (cadencelaw01_BitsJoined.j0 k a0 a1 a2 a3 (decide (a0 > 64)))) else (some false))) = some r := h
  clear h
  replace H := Option.bind_eq_some_iff.mp H
  obtain ⟨t147, A50, H⟩ := H
  replace H : (if t147 = true then (if a0 < 2 then (cadencelaw01_BitsJoined.j0 k a0 a1 a2 a3 true) else (cadencelaw01_BitsJoined.j0 k a0 a1 a2 a3 (decide (a0 > 64)))) else (some false)) = some r := H
  have A5 := Aside0.mk A50
  clear A50
  by_cases c6 : t147 = true
  · subst c6
    have H1 : (if a0 < 2 then (cadencelaw01_BitsJoined.j0 k a0 a1 a2 a3 true) else (cadencelaw01_BitsJoined.j0 k a0 a1 a2 a3 (decide (a0 > 64)))) = some r := by rw [if_pos rfl] at H; exact H
    clear H
    have H := H1
    clear H1
    have HC7 := Aside0.mk H
    clear H
    go_enter Try.func12, Try.ntmps12
    go_upto_region 3 with (first | ((with_reducible refine gate_callee (f := 33) rfl ?_); refine goesL_ (some 18) rfl rfl Try.func33 (by kernel_rfl) rfl #[] rfl (by (try simp only [List.map_toArray, List.map_cons, List.map_nil]); first | done | rfl | (simp only [List.length_drop, List.length_take]; rfl)) ?_; (with_reducible refine (cadencelaw01_alive.calls k  true _ A5.out).mono ?_); rintro e w' ⟨rfl, ⟨nd, rfl⟩⟩; refine ⟨_, rfl, ?_⟩))
    (try simp only [Act.put, List.setIfInBounds_toArray, List.set_cons_zero, List.set_cons_succ])
    go_cut [25] (fun v25 wc => ∃ (kq : Nat) (x25_6 : Bool), v25 = .bool x25_6 ∧ Aside0 (cadencelaw01_BitsJoined.j0 kq a0 a1 a2 a3 x25_6 = some r) ∧ Aside0 (kq ≤ k) ∧ Drawn0 w wc)
    case first =>
      have H := HC7.out
      clear HC7
      by_cases c8 : a0 < 2
      · rw [if_pos c8] at H
        have c8b0 : decide (a0 < 2) = true := decide_eq_true c8
        clear c8
        (first | rw [c8b0] | (simp only [i64_w, i32_w]; rw [c8b0]) | skip)
        have H' := Aside0.mk H
        clear H
        go_wp2
        go_meet
        case rel => exact ⟨_, (true), (by first | rfl | (simp; done) | (simp [*]; done)), H', ⟨by first | omega | exact Nat.le_refl _⟩, by repeat (first | exact Drawn0.refl _ | apply Drawn0.step)⟩
      · rw [if_neg c8] at H
        have c8b0 : decide (a0 < 2) = false := decide_eq_false c8
        clear c8
        (first | rw [c8b0] | (simp only [i64_w, i32_w]; rw [c8b0]) | skip)
        have H' := Aside0.mk H
        clear H
        go_wp2
        go_meet
        case rel => exact ⟨_, (decide (a0 > 64)), (by first | rfl | (simp; done) | (simp [*]; done)), H', ⟨by first | omega | exact Nat.le_refl _⟩, by repeat (first | exact Drawn0.refl _ | apply Drawn0.step)⟩
    case rest =>
      clear HC7
      try clear c1
      try clear p2
      try clear c3
      try clear c6
      try clear c8
      try clear c8b0
      obtain ⟨kq, x25_6, rfl, HA, HJ6, ⟨mc6, rfl⟩⟩ := hcut
      cases kq with
      | zero => exact absurd HA.out (by simp [cadencelaw01_BitsJoined.j0])
      | succ kj6 =>
        have H := HA.out
        clear HA
        simp only [cadencelaw01_BitsJoined.j0] at H
        by_cases c9 : x25_6 = true
        · subst c9
          have H1 : (some true) = some r := by rw [if_pos rfl] at H; exact H
          clear H
          have H := H1
          clear H1
          obtain rfl := Option.some.inj H
          go_wp2
          go_ret
          exact ⟨by first | rfl | (simp; done) | (simp [*]; done), by repeat (first | exact Drawn0.refl _ | apply Drawn0.step)⟩
        · replace c9 := Bool.eq_false_iff.mpr c9
          subst c9
          have H1 : (if (wrap64 (a0 - 1)) = 0 then (none) else ((bits_Trim.f a0 a1).bind fun t148 => ((bits_Slice.f kj6 a0 t148 0 (wrap64 (1 + (Int.tmod (wrap64 ((wrap64 ((Int.tmod a2 (wrap64 (a0 - 1))) + a0)) - 1)) (wrap64 (a0 - 1)))))).bind fun bt149 => ((bits_Slice.f kj6 a0 t148 (wrap64 (1 + (Int.tmod (wrap64 ((wrap64 ((Int.tmod a2 (wrap64 (a0 - 1))) + a0)) - 1)) (wrap64 (a0 - 1))))) (wrap64 (a0 - (wrap64 (1 + (Int.tmod (wrap64 ((wrap64 ((Int.tmod a2 (wrap64 (a0 - 1))) + a0)) - 1)) (wrap64 (a0 - 1)))))))).bind fun bt151 => ((bits_Cat.f kj6 (wrap64 (a0 - (wrap64 (1 + (Int.tmod (wrap64 ((wrap64 ((Int.tmod a2 (wrap64 (a0 - 1))) + a0)) - 1)) (wrap64 (a0 - 1))))))) bt151.1 (wrap64 (1 + (Int.tmod (wrap64 ((wrap64 ((Int.tmod a2 (wrap64 (a0 - 1))) + a0)) - 1)) (wrap64 (a0 - 1))))) bt149.1).bind fun bt153 => (if bt149.2 = 0 then (if bt151.2 = 0 then (if bt153.2 = 0 then (cadencelaw01_BitsJoined.j1 kj6 a0 t148 a3 (bt153.1 != t148)) else (cadencelaw01_BitsJoined.j1 kj6 a0 t148 a3 true)) else (cadencelaw01_BitsJoined.j1 kj6 a0 t148 a3 true)) else (cadencelaw01_BitsJoined.j1 kj6 a0 t148 a3 true))))))) = some r := by rw [if_neg (show ¬ (false = true) by decide)] at H; exact H
          clear H
          have H := H1
          clear H1
          by_cases c10 : (wrap64 (a0 - 1)) = 0
          · rw [if_pos c10] at H
            exact absurd H (by simp)
          · rw [if_neg c10] at H
            have c10b0 : ((wrap64 (a0 - 1)) == 0) = false := beq_eq_false_iff_ne.mpr c10
            have c10b1 : ((wrap64 (a0 - 1)) != 0) = true := bne_iff_ne.mpr c10
            replace H := Option.bind_eq_some_iff.mp H
            obtain ⟨t148, A110, H⟩ := H
            replace H : ((bits_Slice.f kj6 a0 t148 0 (wrap64 (1 + (Int.tmod (wrap64 ((wrap64 ((Int.tmod a2 (wrap64 (a0 - 1))) + a0)) - 1)) (wrap64 (a0 - 1)))))).bind fun bt149 => ((bits_Slice.f kj6 a0 t148 (wrap64 (1 + (Int.tmod (wrap64 ((wrap64 ((Int.tmod a2 (wrap64 (a0 - 1))) + a0)) - 1)) (wrap64 (a0 - 1))))) (wrap64 (a0 - (wrap64 (1 + (Int.tmod (wrap64 ((wrap64 ((Int.tmod a2 (wrap64 (a0 - 1))) + a0)) - 1)) (wrap64 (a0 - 1)))))))).bind fun bt151 => ((bits_Cat.f kj6 (wrap64 (a0 - (wrap64 (1 + (Int.tmod (wrap64 ((wrap64 ((Int.tmod a2 (wrap64 (a0 - 1))) + a0)) - 1)) (wrap64 (a0 - 1))))))) bt151.1 (wrap64 (1 + (Int.tmod (wrap64 ((wrap64 ((Int.tmod a2 (wrap64 (a0 - 1))) + a0)) - 1)) (wrap64 (a0 - 1))))) bt149.1).bind fun bt153 => (if bt149.2 = 0 then (if bt151.2 = 0 then (if bt153.2 = 0 then (cadencelaw01_BitsJoined.j1 kj6 a0 t148 a3 (bt153.1 != t148)) else (cadencelaw01_BitsJoined.j1 kj6 a0 t148 a3 true)) else (cadencelaw01_BitsJoined.j1 kj6 a0 t148 a3 true)) else (cadencelaw01_BitsJoined.j1 kj6 a0 t148 a3 true))))) = some r := H
            have A11 := Aside0.mk A110
            clear A110
            replace H := Option.bind_eq_some_iff.mp H
            obtain ⟨⟨t149, t150⟩, A120, H⟩ := H
            replace H : ((bits_Slice.f kj6 a0 t148 (wrap64 (1 + (Int.tmod (wrap64 ((wrap64 ((Int.tmod a2 (wrap64 (a0 - 1))) + a0)) - 1)) (wrap64 (a0 - 1))))) (wrap64 (a0 - (wrap64 (1 + (Int.tmod (wrap64 ((wrap64 ((Int.tmod a2 (wrap64 (a0 - 1))) + a0)) - 1)) (wrap64 (a0 - 1)))))))).bind fun bt151 => ((bits_Cat.f kj6 (wrap64 (a0 - (wrap64 (1 + (Int.tmod (wrap64 ((wrap64 ((Int.tmod a2 (wrap64 (a0 - 1))) + a0)) - 1)) (wrap64 (a0 - 1))))))) bt151.1 (wrap64 (1 + (Int.tmod (wrap64 ((wrap64 ((Int.tmod a2 (wrap64 (a0 - 1))) + a0)) - 1)) (wrap64 (a0 - 1))))) t149).bind fun bt153 => (if t150 = 0 then (if bt151.2 = 0 then (if bt153.2 = 0 then (cadencelaw01_BitsJoined.j1 kj6 a0 t148 a3 (bt153.1 != t148)) else (cadencelaw01_BitsJoined.j1 kj6 a0 t148 a3 true)) else (cadencelaw01_BitsJoined.j1 kj6 a0 t148 a3 true)) else (cadencelaw01_BitsJoined.j1 kj6 a0 t148 a3 true)))) = some r := H
            have A12 := Aside0.mk A120
            clear A120
            replace H := Option.bind_eq_some_iff.mp H
            obtain ⟨⟨t151, t152⟩, A130, H⟩ := H
            replace H : ((bits_Cat.f kj6 (wrap64 (a0 - (wrap64 (1 + (Int.tmod (wrap64 ((wrap64 ((Int.tmod a2 (wrap64 (a0 - 1))) + a0)) - 1)) (wrap64 (a0 - 1))))))) t151 (wrap64 (1 + (Int.tmod (wrap64 ((wrap64 ((Int.tmod a2 (wrap64 (a0 - 1))) + a0)) - 1)) (wrap64 (a0 - 1))))) t149).bind fun bt153 => (if t150 = 0 then (if t152 = 0 then (if bt153.2 = 0 then (cadencelaw01_BitsJoined.j1 kj6 a0 t148 a3 (bt153.1 != t148)) else (cadencelaw01_BitsJoined.j1 kj6 a0 t148 a3 true)) else (cadencelaw01_BitsJoined.j1 kj6 a0 t148 a3 true)) else (cadencelaw01_BitsJoined.j1 kj6 a0 t148 a3 true))) = some r := H
            have A13 := Aside0.mk A130
            clear A130
            replace H := Option.bind_eq_some_iff.mp H
            obtain ⟨⟨t153, t154⟩, A140, H⟩ := H
            replace H : (if t150 = 0 then (if t152 = 0 then (if t154 = 0 then (cadencelaw01_BitsJoined.j1 kj6 a0 t148 a3 (t153 != t148)) else (cadencelaw01_BitsJoined.j1 kj6 a0 t148 a3 true)) else (cadencelaw01_BitsJoined.j1 kj6 a0 t148 a3 true)) else (cadencelaw01_BitsJoined.j1 kj6 a0 t148 a3 true)) = some r := H
            have A14 := Aside0.mk A140
            clear A140
            have HC15 := Aside0.mk H
            clear H
            go_upto_region 10 with (first | ((with_reducible refine gate_callee (f := 17) rfl ?_); refine goesL_ (some 39) rfl rfl Try.func17 (by kernel_rfl) rfl #[.int .i64 a0, .int .u64 a1] rfl (by (try simp only [List.map_toArray, List.map_cons, List.map_nil]); first | done | rfl | (simp only [List.length_drop, List.length_take]; rfl)) ?_; (with_reducible refine (bits_Trim.calls a0 a1 t148 _ A11.out).mono ?_); rintro e w' ⟨rfl, ⟨nd, rfl⟩⟩; refine ⟨_, rfl, ?_⟩) | ((with_reducible refine gate_callee (f := 27) rfl ?_); refine goesL_ (some 44) rfl rfl Try.func27 (by kernel_rfl) rfl #[.int .i64 a0, .int .u64 t148, .int .i64 0, .int .i64 (wrap64 (1 + (Int.tmod (wrap64 ((wrap64 ((Int.tmod a2 (wrap64 (a0 - 1))) + a0)) - 1)) (wrap64 (a0 - 1)))))] rfl (by (try simp only [List.map_toArray, List.map_cons, List.map_nil]); first | done | rfl | (simp only [List.length_drop, List.length_take]; rfl)) ?_; (with_reducible refine (bits_Slice.calls kj6 a0 t148 0 (wrap64 (1 + (Int.tmod (wrap64 ((wrap64 ((Int.tmod a2 (wrap64 (a0 - 1))) + a0)) - 1)) (wrap64 (a0 - 1))))) t149 t150 _ A12.out).mono ?_); rintro e w' ⟨rfl, ⟨nd, rfl⟩⟩; refine ⟨_, rfl, ?_⟩) | ((with_reducible refine gate_callee (f := 27) rfl ?_); refine goesL_ (some 54) rfl rfl Try.func27 (by kernel_rfl) rfl #[.int .i64 a0, .int .u64 t148, .int .i64 (wrap64 (1 + (Int.tmod (wrap64 ((wrap64 ((Int.tmod a2 (wrap64 (a0 - 1))) + a0)) - 1)) (wrap64 (a0 - 1))))), .int .i64 (wrap64 (a0 - (wrap64 (1 + (Int.tmod (wrap64 ((wrap64 ((Int.tmod a2 (wrap64 (a0 - 1))) + a0)) - 1)) (wrap64 (a0 - 1)))))))] rfl (by (try simp only [List.map_toArray, List.map_cons, List.map_nil]); first | done | rfl | (simp only [List.length_drop, List.length_take]; rfl)) ?_; (with_reducible refine (bits_Slice.calls kj6 a0 t148 (wrap64 (1 + (Int.tmod (wrap64 ((wrap64 ((Int.tmod a2 (wrap64 (a0 - 1))) + a0)) - 1)) (wrap64 (a0 - 1))))) (wrap64 (a0 - (wrap64 (1 + (Int.tmod (wrap64 ((wrap64 ((Int.tmod a2 (wrap64 (a0 - 1))) + a0)) - 1)) (wrap64 (a0 - 1))))))) t151 t152 _ A13.out).mono ?_); rintro e w' ⟨rfl, ⟨nd, rfl⟩⟩; refine ⟨_, rfl, ?_⟩) | ((with_reducible refine gate_callee (f := 25) rfl ?_); refine goesL_ (some 64) rfl rfl Try.func25 (by kernel_rfl) rfl #[.int .i64 (wrap64 (a0 - (wrap64 (1 + (Int.tmod (wrap64 ((wrap64 ((Int.tmod a2 (wrap64 (a0 - 1))) + a0)) - 1)) (wrap64 (a0 - 1))))))), .int .u64 t151, .int .i64 (wrap64 (1 + (Int.tmod (wrap64 ((wrap64 ((Int.tmod a2 (wrap64 (a0 - 1))) + a0)) - 1)) (wrap64 (a0 - 1))))), .int .u64 t149] rfl (by (try simp only [List.map_toArray, List.map_cons, List.map_nil]); first | done | rfl | (simp only [List.length_drop, List.length_take]; rfl)) ?_; (with_reducible refine (bits_Cat.calls kj6 (wrap64 (a0 - (wrap64 (1 + (Int.tmod (wrap64 ((wrap64 ((Int.tmod a2 (wrap64 (a0 - 1))) + a0)) - 1)) (wrap64 (a0 - 1))))))) t151 (wrap64 (1 + (Int.tmod (wrap64 ((wrap64 ((Int.tmod a2 (wrap64 (a0 - 1))) + a0)) - 1)) (wrap64 (a0 - 1))))) t149 t153 t154 _ A14.out).mono ?_); rintro e w' ⟨rfl, ⟨nd, rfl⟩⟩; refine ⟨_, rfl, ?_⟩))
            (try simp only [Act.put, List.setIfInBounds_toArray, List.set_cons_zero, List.set_cons_succ])
            go_cut [81] (fun v81 wc => ∃ (kq : Nat) (x81_14 : Bool), v81 = .bool x81_14 ∧ Aside0 (cadencelaw01_BitsJoined.j1 kq a0 t148 a3 x81_14 = some r) ∧ Aside0 (kq ≤ kj6) ∧ Drawn0 w wc)
            case first =>
              have H := HC15.out
              clear HC15
              by_cases c16 : t150 = 0
              · rw [if_pos c16] at H
                have c16b0 : (t150 == 0) = true := beq_iff_eq.mpr c16
                have c16b1 : (t150 != 0) = false := bne_eq_false_iff_eq.mpr c16
                clear c16
                (first | rw [c16b0] | (simp only [i64_w, i32_w]; rw [c16b0]) | skip)
                by_cases c17 : t152 = 0
                · rw [if_pos c17] at H
                  have c17b0 : (t152 == 0) = true := beq_iff_eq.mpr c17
                  have c17b1 : (t152 != 0) = false := bne_eq_false_iff_eq.mpr c17
                  clear c17
                  by_cases c18 : t154 = 0
                  · rw [if_pos c18] at H
                    have c18b0 : (t154 == 0) = true := beq_iff_eq.mpr c18
                    have c18b1 : (t154 != 0) = false := bne_eq_false_iff_eq.mpr c18
                    clear c18
                    have H' := Aside0.mk H
                    clear H
                    go_wp2
                    go_meet
                    case rel => exact ⟨_, ((t153 != t148)), (by first | rfl | (simp; done) | (simp [*]; done)), H', ⟨by have := HJ6.out; first | omega | exact Nat.le_refl _⟩, by repeat (first | exact Drawn0.refl _ | apply Drawn0.step)⟩
                  · rw [if_neg c18] at H
                    have c18b0 : (t154 == 0) = false := beq_eq_false_iff_ne.mpr c18
                    have c18b1 : (t154 != 0) = true := bne_iff_ne.mpr c18
                    have H' := Aside0.mk H
                    clear H
                    go_wp2
                    go_meet
                    case rel => exact ⟨_, (true), (by first | rfl | (simp; done) | (simp [*]; done)), H', ⟨by have := HJ6.out; first | omega | exact Nat.le_refl _⟩, by repeat (first | exact Drawn0.refl _ | apply Drawn0.step)⟩
                · rw [if_neg c17] at H
                  have c17b0 : (t152 == 0) = false := beq_eq_false_iff_ne.mpr c17
                  have c17b1 : (t152 != 0) = true := bne_iff_ne.mpr c17
                  have H' := Aside0.mk H
                  clear H
                  go_wp2
                  go_meet
                  case rel => exact ⟨_, (true), (by first | rfl | (simp; done) | (simp [*]; done)), H', ⟨by have := HJ6.out; first | omega | exact Nat.le_refl _⟩, by repeat (first | exact Drawn0.refl _ | apply Drawn0.step)⟩
              · rw [if_neg c16] at H
                have c16b0 : (t150 == 0) = false := beq_eq_false_iff_ne.mpr c16
                have c16b1 : (t150 != 0) = true := bne_iff_ne.mpr c16
                (first | rw [c16b0] | (simp only [i64_w, i32_w]; rw [c16b0]) | skip)
                have H' := Aside0.mk H
                clear H
                go_wp2
                go_meet
                case rel => exact ⟨_, (true), (by first | rfl | (simp; done) | (simp [*]; done)), H', ⟨by have := HJ6.out; first | omega | exact Nat.le_refl _⟩, by repeat (first | exact Drawn0.refl _ | apply Drawn0.step)⟩
            case rest =>
              clear HC15
              try clear c1
              try clear c2
              try clear p2
              try clear c3
              try clear c6
              try clear p6
              try clear c8
              try clear c8b0
              try clear c9
              try clear c10
              try clear c10b0
              try clear c10b1
              try clear c12
              try clear c16
              try clear c16b0
              try clear c16b1
              try clear c17
              try clear c17b0
              try clear c17b1
              try clear c18
              try clear c18b0
              try clear c18b1
              try clear p2
              obtain ⟨kq, x81_14, rfl, HA, HJ14, ⟨mc14, rfl⟩⟩ := hcut
              cases kq with
              | zero => exact absurd HA.out (by simp [cadencelaw01_BitsJoined.j1])
              | succ kj14 =>
                have H := HA.out
                clear HA
                simp only [cadencelaw01_BitsJoined.j1] at H
                by_cases c19 : x81_14 = true
                · subst c19
                  have H1 : (some false) = some r := by rw [if_pos rfl] at H; exact H
                  clear H
                  have H := H1
                  clear H1
                  obtain rfl := Option.some.inj H
                  go_wp2
                  go_ret
                  exact ⟨by first | rfl | (simp; done) | (simp [*]; done), by repeat (first | exact Drawn0.refl _ | apply Drawn0.step)⟩
                · replace c19 := Bool.eq_false_iff.mpr c19
                  subst c19
                  have H1 : (if a3 < a0 then (cadencelaw01_BitsJoined.j2 kj14 a0 t148 a3 true) else (cadencelaw01_BitsJoined.j2 kj14 a0 t148 a3 (decide (a3 > 64)))) = some r := by rw [if_neg (show ¬ (false = true) by decide)] at H; exact H
                  clear H
                  have H := H1
                  clear H1
                  have HC20 := Aside0.mk H
                  clear H
                  go_upto_region 12 with (fail)
                  go_cut [88] (fun v88 wc => ∃ (kq : Nat) (x88_19 : Bool), v88 = .bool x88_19 ∧ Aside0 (cadencelaw01_BitsJoined.j2 kq a0 t148 a3 x88_19 = some r) ∧ Aside0 (kq ≤ kj14) ∧ Drawn0 w wc)
                  case first =>
                    have H := HC20.out
                    clear HC20
                    by_cases c21 : a3 < a0
                    · rw [if_pos c21] at H
                      have c21b0 : decide (a3 < a0) = true := decide_eq_true c21
                      clear c21
                      (first | rw [c21b0] | (simp only [i64_w, i32_w]; rw [c21b0]) | skip)
                      have H' := Aside0.mk H
                      clear H
                      go_wp2
                      go_meet
                      case rel => exact ⟨_, (true), (by first | rfl | (simp; done) | (simp [*]; done)), H', ⟨by have := HJ6.out; have := HJ14.out; first | omega | exact Nat.le_refl _⟩, by repeat (first | exact Drawn0.refl _ | apply Drawn0.step)⟩
                    · rw [if_neg c21] at H
                      have c21b0 : decide (a3 < a0) = false := decide_eq_false c21
                      clear c21
                      (first | rw [c21b0] | (simp only [i64_w, i32_w]; rw [c21b0]) | skip)
                      have H' := Aside0.mk H
                      clear H
                      go_wp2
                      go_meet
                      case rel => exact ⟨_, (decide (a3 > 64)), (by first | rfl | (simp; done) | (simp [*]; done)), H', ⟨by have := HJ6.out; have := HJ14.out; first | omega | exact Nat.le_refl _⟩, by repeat (first | exact Drawn0.refl _ | apply Drawn0.step)⟩
                  case rest =>
                    clear HC20
                    try clear c1
                    try clear c2
                    try clear p2
                    try clear c3
                    try clear c6
                    try clear p6
                    try clear c8
                    try clear c8b0
                    try clear c9
                    try clear c10
                    try clear c10b0
                    try clear c10b1
                    try clear c12
                    try clear c14
                    try clear c16
                    try clear c16b0
                    try clear c16b1
                    try clear c17
                    try clear c17b0
                    try clear c17b1
                    try clear c18
                    try clear c18b0
                    try clear c18b1
                    try clear c19
                    try clear c21
                    try clear c21b0
                    try clear p2
                    try clear p6
                    obtain ⟨kq, x88_19, rfl, HA, HJ19, ⟨mc19, rfl⟩⟩ := hcut
                    cases kq with
                    | zero => exact absurd HA.out (by simp [cadencelaw01_BitsJoined.j2])
                    | succ kj19 =>
                      have H := HA.out
                      clear HA
                      simp only [cadencelaw01_BitsJoined.j2] at H
                      by_cases c22 : x88_19 = true
                      · subst c22
                        have H1 : ((bits_Ext.f kj19 33 a0 t148 a3).bind fun bt155 => (some (bt155.2 == 5))) = some r := by rw [if_pos rfl] at H; exact H
                        clear H
                        have H := H1
                        clear H1
                        replace H := Option.bind_eq_some_iff.mp H
                        obtain ⟨⟨t155, t156⟩, A230, H⟩ := H
                        replace H : (some (t156 == 5)) = some r := H
                        have A23 := Aside0.mk A230
                        clear A230
                        obtain rfl := Option.some.inj H
                        go_wp2_with (first | ((with_reducible refine gate_callee (f := 29) rfl ?_); refine goesL_ (some 93) rfl rfl Try.func29 (by kernel_rfl) rfl #[.int .i64 33, .int .i64 a0, .int .u64 t148, .int .i64 a3] rfl (by (try simp only [List.map_toArray, List.map_cons, List.map_nil]); first | done | rfl | (simp only [List.length_drop, List.length_take]; rfl)) ?_; (with_reducible refine (bits_Ext.calls kj19 33 a0 t148 a3 t155 t156 _ A23.out).mono ?_); rintro e w' ⟨rfl, ⟨nd, rfl⟩⟩; refine ⟨_, rfl, ?_⟩))
                        go_ret
                        exact ⟨by first | rfl | (simp; done) | (simp [*]; done), by repeat (first | exact Drawn0.refl _ | apply Drawn0.step)⟩
                      · replace c22 := Bool.eq_false_iff.mpr c22
                        subst c22
                        have H1 : ((bits_Ext.f kj19 33 a0 t148 a3).bind fun bt157 => ((bits_Ext.f kj19 32 a0 t148 a3).bind fun bt159 => (if bt157.2 = 0 then (if bt159.2 = 0 then ((bits_Signed.f a3 bt157.1).bind fun t161 => ((bits_Signed.f a0 t148).bind fun t162 => (if t161 = t162 then (if bt159.1 = t148 then ((bits_Trim.f a0 bt157.1).bind fun t163 => (some (t163 == t148))) else (some false)) else (some false)))) else (some false)) else (some false)))) = some r := by rw [if_neg (show ¬ (false = true) by decide)] at H; exact H
                        clear H
                        have H := H1
                        clear H1
                        replace H := Option.bind_eq_some_iff.mp H
                        obtain ⟨⟨t157, t158⟩, A240, H⟩ := H
                        replace H : ((bits_Ext.f kj19 32 a0 t148 a3).bind fun bt159 => (if t158 = 0 then (if bt159.2 = 0 then ((bits_Signed.f a3 t157).bind fun t161 => ((bits_Signed.f a0 t148).bind fun t162 => (if t161 = t162 then (if bt159.1 = t148 then ((bits_Trim.f a0 t157).bind fun t163 => (some (t163 == t148))) else (some false)) else (some false)))) else (some false)) else (some false))) = some r := H
                        have A24 := Aside0.mk A240
                        clear A240
                        replace H := Option.bind_eq_some_iff.mp H
                        obtain ⟨⟨t159, t160⟩, A250, H⟩ := H
                        replace H : (if t158 = 0 then (if t160 = 0 then ((bits_Signed.f a3 t157).bind fun t161 => ((bits_Signed.f a0 t148).bind fun t162 => (if t161 = t162 then (if t159 = t148 then ((bits_Trim.f a0 t157).bind fun t163 => (some (t163 == t148))) else (some false)) else (some false)))) else (some false)) else (some false)) = some r := H
                        have A25 := Aside0.mk A250
                        clear A250
                        by_cases c26 : t158 = 0
                        · rw [if_pos c26] at H
                          have c26b0 : (t158 == 0) = true := beq_iff_eq.mpr c26
                          have c26b1 : (t158 != 0) = false := bne_eq_false_iff_eq.mpr c26
                          clear c26
                          by_cases c27 : t160 = 0
                          · rw [if_pos c27] at H
                            have c27b0 : (t160 == 0) = true := beq_iff_eq.mpr c27
                            have c27b1 : (t160 != 0) = false := bne_eq_false_iff_eq.mpr c27
                            clear c27
                            replace H := Option.bind_eq_some_iff.mp H
                            obtain ⟨t161, A280, H⟩ := H
                            replace H : ((bits_Signed.f a0 t148).bind fun t162 => (if t161 = t162 then (if t159 = t148 then ((bits_Trim.f a0 t157).bind fun t163 => (some (t163 == t148))) else (some false)) else (some false))) = some r := H
                            have A28 := Aside0.mk A280
                            clear A280
                            replace H := Option.bind_eq_some_iff.mp H
                            obtain ⟨t162, A290, H⟩ := H
                            replace H : (if t161 = t162 then (if t159 = t148 then ((bits_Trim.f a0 t157).bind fun t163 => (some (t163 == t148))) else (some false)) else (some false)) = some r := H
                            have A29 := Aside0.mk A290
                            clear A290
                            by_cases c30 : t161 = t162
                            · rw [if_pos c30] at H
                              have c30b0 : (t161 == t162) = true := beq_iff_eq.mpr c30
                              have c30b1 : (t161 != t162) = false := bne_eq_false_iff_eq.mpr c30
                              clear c30
                              by_cases c31 : t159 = t148
                              · rw [if_pos c31] at H
                                have c31b0 : (t159 == t148) = true := beq_iff_eq.mpr c31
                                have c31b1 : (t159 != t148) = false := bne_eq_false_iff_eq.mpr c31
                                clear c31
                                replace H := Option.bind_eq_some_iff.mp H
                                obtain ⟨t163, A320, H⟩ := H
                                replace H : (some (t163 == t148)) = some r := H
                                have A32 := Aside0.mk A320
                                clear A320
                                obtain rfl := Option.some.inj H
                                go_wp2_with (first | ((with_reducible refine gate_callee (f := 29) rfl ?_); refine goesL_ (some 102) rfl rfl Try.func29 (by kernel_rfl) rfl #[.int .i64 33, .int .i64 a0, .int .u64 t148, .int .i64 a3] rfl (by (try simp only [List.map_toArray, List.map_cons, List.map_nil]); first | done | rfl | (simp only [List.length_drop, List.length_take]; rfl)) ?_; (with_reducible refine (bits_Ext.calls kj19 33 a0 t148 a3 t157 t158 _ A24.out).mono ?_); rintro e w' ⟨rfl, ⟨nd, rfl⟩⟩; refine ⟨_, rfl, ?_⟩) | ((with_reducible refine gate_callee (f := 29) rfl ?_); refine goesL_ (some 109) rfl rfl Try.func29 (by kernel_rfl) rfl #[.int .i64 32, .int .i64 a0, .int .u64 t148, .int .i64 a3] rfl (by (try simp only [List.map_toArray, List.map_cons, List.map_nil]); first | done | rfl | (simp only [List.length_drop, List.length_take]; rfl)) ?_; (with_reducible refine (bits_Ext.calls kj19 32 a0 t148 a3 t159 t160 _ A25.out).mono ?_); rintro e w' ⟨rfl, ⟨nd, rfl⟩⟩; refine ⟨_, rfl, ?_⟩) | (go_at_call 19; (with_reducible refine (bits_Signed.calls a3 t157 t161 _ A28.out).mono ?_); rintro e w' ⟨rfl, ⟨nd, rfl⟩⟩) | (go_at_call 19; (with_reducible refine (bits_Signed.calls a0 t148 t162 _ A29.out).mono ?_); rintro e w' ⟨rfl, ⟨nd, rfl⟩⟩) | (go_at_call 17; (with_reducible refine (bits_Trim.calls a0 t157 t163 _ A32.out).mono ?_); rintro e w' ⟨rfl, ⟨nd, rfl⟩⟩))
                                go_ret
                                exact ⟨by first | rfl | (simp; done) | (simp [*]; done), by repeat (first | exact Drawn0.refl _ | apply Drawn0.step)⟩
                              · rw [if_neg c31] at H
                                have c31b0 : (t159 == t148) = false := beq_eq_false_iff_ne.mpr c31
                                have c31b1 : (t159 != t148) = true := bne_iff_ne.mpr c31
                                obtain rfl := Option.some.inj H
                                go_wp2_with (first | ((with_reducible refine gate_callee (f := 29) rfl ?_); refine goesL_ (some 102) rfl rfl Try.func29 (by kernel_rfl) rfl #[.int .i64 33, .int .i64 a0, .int .u64 t148, .int .i64 a3] rfl (by (try simp only [List.map_toArray, List.map_cons, List.map_nil]); first | done | rfl | (simp only [List.length_drop, List.length_take]; rfl)) ?_; (with_reducible refine (bits_Ext.calls kj19 33 a0 t148 a3 t157 t158 _ A24.out).mono ?_); rintro e w' ⟨rfl, ⟨nd, rfl⟩⟩; refine ⟨_, rfl, ?_⟩) | ((with_reducible refine gate_callee (f := 29) rfl ?_); refine goesL_ (some 109) rfl rfl Try.func29 (by kernel_rfl) rfl #[.int .i64 32, .int .i64 a0, .int .u64 t148, .int .i64 a3] rfl (by (try simp only [List.map_toArray, List.map_cons, List.map_nil]); first | done | rfl | (simp only [List.length_drop, List.length_take]; rfl)) ?_; (with_reducible refine (bits_Ext.calls kj19 32 a0 t148 a3 t159 t160 _ A25.out).mono ?_); rintro e w' ⟨rfl, ⟨nd, rfl⟩⟩; refine ⟨_, rfl, ?_⟩) | (go_at_call 19; (with_reducible refine (bits_Signed.calls a3 t157 t161 _ A28.out).mono ?_); rintro e w' ⟨rfl, ⟨nd, rfl⟩⟩) | (go_at_call 19; (with_reducible refine (bits_Signed.calls a0 t148 t162 _ A29.out).mono ?_); rintro e w' ⟨rfl, ⟨nd, rfl⟩⟩))
                                go_ret
                                exact ⟨by first | rfl | (simp; done) | (simp [*]; done), by repeat (first | exact Drawn0.refl _ | apply Drawn0.step)⟩
                            · rw [if_neg c30] at H
                              have c30b0 : (t161 == t162) = false := beq_eq_false_iff_ne.mpr c30
                              have c30b1 : (t161 != t162) = true := bne_iff_ne.mpr c30
                              obtain rfl := Option.some.inj H
                              go_wp2_with (first | ((with_reducible refine gate_callee (f := 29) rfl ?_); refine goesL_ (some 102) rfl rfl Try.func29 (by kernel_rfl) rfl #[.int .i64 33, .int .i64 a0, .int .u64 t148, .int .i64 a3] rfl (by (try simp only [List.map_toArray, List.map_cons, List.map_nil]); first | done | rfl | (simp only [List.length_drop, List.length_take]; rfl)) ?_; (with_reducible refine (bits_Ext.calls kj19 33 a0 t148 a3 t157 t158 _ A24.out).mono ?_); rintro e w' ⟨rfl, ⟨nd, rfl⟩⟩; refine ⟨_, rfl, ?_⟩) | ((with_reducible refine gate_callee (f := 29) rfl ?_); refine goesL_ (some 109) rfl rfl Try.func29 (by kernel_rfl) rfl #[.int .i64 32, .int .i64 a0, .int .u64 t148, .int .i64 a3] rfl (by (try simp only [List.map_toArray, List.map_cons, List.map_nil]); first | done | rfl | (simp only [List.length_drop, List.length_take]; rfl)) ?_; (with_reducible refine (bits_Ext.calls kj19 32 a0 t148 a3 t159 t160 _ A25.out).mono ?_); rintro e w' ⟨rfl, ⟨nd, rfl⟩⟩; refine ⟨_, rfl, ?_⟩) | (go_at_call 19; (with_reducible refine (bits_Signed.calls a3 t157 t161 _ A28.out).mono ?_); rintro e w' ⟨rfl, ⟨nd, rfl⟩⟩) | (go_at_call 19; (with_reducible refine (bits_Signed.calls a0 t148 t162 _ A29.out).mono ?_); rintro e w' ⟨rfl, ⟨nd, rfl⟩⟩))
                              go_ret
                              exact ⟨by first | rfl | (simp; done) | (simp [*]; done), by repeat (first | exact Drawn0.refl _ | apply Drawn0.step)⟩
                          · rw [if_neg c27] at H
                            have c27b0 : (t160 == 0) = false := beq_eq_false_iff_ne.mpr c27
                            have c27b1 : (t160 != 0) = true := bne_iff_ne.mpr c27
                            obtain rfl := Option.some.inj H
                            go_wp2_with (first | ((with_reducible refine gate_callee (f := 29) rfl ?_); refine goesL_ (some 102) rfl rfl Try.func29 (by kernel_rfl) rfl #[.int .i64 33, .int .i64 a0, .int .u64 t148, .int .i64 a3] rfl (by (try simp only [List.map_toArray, List.map_cons, List.map_nil]); first | done | rfl | (simp only [List.length_drop, List.length_take]; rfl)) ?_; (with_reducible refine (bits_Ext.calls kj19 33 a0 t148 a3 t157 t158 _ A24.out).mono ?_); rintro e w' ⟨rfl, ⟨nd, rfl⟩⟩; refine ⟨_, rfl, ?_⟩) | ((with_reducible refine gate_callee (f := 29) rfl ?_); refine goesL_ (some 109) rfl rfl Try.func29 (by kernel_rfl) rfl #[.int .i64 32, .int .i64 a0, .int .u64 t148, .int .i64 a3] rfl (by (try simp only [List.map_toArray, List.map_cons, List.map_nil]); first | done | rfl | (simp only [List.length_drop, List.length_take]; rfl)) ?_; (with_reducible refine (bits_Ext.calls kj19 32 a0 t148 a3 t159 t160 _ A25.out).mono ?_); rintro e w' ⟨rfl, ⟨nd, rfl⟩⟩; refine ⟨_, rfl, ?_⟩))
                            go_ret
                            exact ⟨by first | rfl | (simp; done) | (simp [*]; done), by repeat (first | exact Drawn0.refl _ | apply Drawn0.step)⟩
                        · rw [if_neg c26] at H
                          have c26b0 : (t158 == 0) = false := beq_eq_false_iff_ne.mpr c26
                          have c26b1 : (t158 != 0) = true := bne_iff_ne.mpr c26
                          obtain rfl := Option.some.inj H
                          go_wp2_with (first | ((with_reducible refine gate_callee (f := 29) rfl ?_); refine goesL_ (some 102) rfl rfl Try.func29 (by kernel_rfl) rfl #[.int .i64 33, .int .i64 a0, .int .u64 t148, .int .i64 a3] rfl (by (try simp only [List.map_toArray, List.map_cons, List.map_nil]); first | done | rfl | (simp only [List.length_drop, List.length_take]; rfl)) ?_; (with_reducible refine (bits_Ext.calls kj19 33 a0 t148 a3 t157 t158 _ A24.out).mono ?_); rintro e w' ⟨rfl, ⟨nd, rfl⟩⟩; refine ⟨_, rfl, ?_⟩) | ((with_reducible refine gate_callee (f := 29) rfl ?_); refine goesL_ (some 109) rfl rfl Try.func29 (by kernel_rfl) rfl #[.int .i64 32, .int .i64 a0, .int .u64 t148, .int .i64 a3] rfl (by (try simp only [List.map_toArray, List.map_cons, List.map_nil]); first | done | rfl | (simp only [List.length_drop, List.length_take]; rfl)) ?_; (with_reducible refine (bits_Ext.calls kj19 32 a0 t148 a3 t159 t160 _ A25.out).mono ?_); rintro e w' ⟨rfl, ⟨nd, rfl⟩⟩; refine ⟨_, rfl, ?_⟩))
                          go_ret
                          exact ⟨by first | rfl | (simp; done) | (simp [*]; done), by repeat (first | exact Drawn0.refl _ | apply Drawn0.step)⟩
  · replace c6 := Bool.eq_false_iff.mpr c6
    subst c6
    have H1 : (some false) = some r := by rw [if_neg (show ¬ (false = true) by decide)] at H; exact H
    clear H
    have H := H1
    clear H1
    obtain rfl := Option.some.inj H
    go_enter Try.func12, Try.ntmps12
    go_wp2_with (first | ((with_reducible refine gate_callee (f := 33) rfl ?_); refine goesL_ (some 18) rfl rfl Try.func33 (by kernel_rfl) rfl #[] rfl (by (try simp only [List.map_toArray, List.map_cons, List.map_nil]); first | done | rfl | (simp only [List.length_drop, List.length_take]; rfl)) ?_; (with_reducible refine (cadencelaw01_alive.calls k  false _ A5.out).mono ?_); rintro e w' ⟨rfl, ⟨nd, rfl⟩⟩; refine ⟨_, rfl, ?_⟩))
    go_ret
    exact ⟨by first | rfl | (simp; done) | (simp [*]; done), by repeat (first | exact Drawn0.refl _ | apply Drawn0.step)⟩

/-- THE ONE PURE STATEMENT of cadencelaw01_BitsJoined: yours. -/
def cadencelaw01_BitsJoined.Pure : Prop := ∀ (a0 : Int) (a1 : Int) (a2 : Int) (a3 : Int), (Lit.int .i64 a0).wf = true → (Lit.int .u64 a1).wf = true → (Lit.int .i64 a2).wf = true → (Lit.int .i64 a3).wf = true → ∃ k, cadencelaw01_BitsJoined.f k a0 a1 a2 a3 = some true
theorem cadencelaw01_BitsJoined.walk (P : cadencelaw01_BitsJoined.Pure) (a0 : Int) (a1 : Int) (a2 : Int) (a3 : Int) (w : World) (w0 : (Lit.int .i64 a0).wf = true) (w1 : (Lit.int .u64 a1).wf = true) (w2 : (Lit.int .i64 a2).wf = true) (w3 : (Lit.int .i64 a3).wf = true) :
    Calls Try.prog 12 #[.int .i64 a0, .int .u64 a1, .int .i64 a2, .int .i64 a3] w fun e w' => e = .returned (.bool true) ∧ Below w.heap.size w w' := by
  obtain ⟨k, h⟩ := P a0 a1 a2 a3 w0 w1 w2 w3
  refine (cadencelaw01_BitsJoined.calls k a0 a1 a2 a3 true w h).mono ?_
  rintro e w' ⟨rfl, hd⟩
  exact ⟨rfl, hd.below⟩

end Go.Proofs.Ytklnafmoihkbhaa.C
