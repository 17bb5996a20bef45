import Derived.Test.YtklnafmoihkbhaaBt
namespace Go.Proofs.Ytklnafmoihkbhaa.C
open Go.RowKit Go.Proofs.YtklnafmoihkbhaaW.PrintWords Go.Proofs.YtklnafmoihkbhaaW.PrintLast Go.Proofs.YtklnafmoihkbhaaW.PrintMore
open Bm
set_option linter.unusedVariables false
set_option linter.unusedSimpArgs false

/-- A compare that must be. -/
theorem Cmp_ok (k : Nat) {op : Int} {m x y : Nat} (h1 : 1 ≤ m) (h2 : m ≤ 64) (hx : x < 2 ^ 64) (hy : y < 2 ^ 64) (o1 : 9 ≤ op) (o2 : op ≤ 13) :
    bits_Cmp.f (k + 1) op (m : Int) (x : Int) (y : Int) = some (if op = 9 then decide (x % 2 ^ m = y % 2 ^ m) else if op = 10 then decide (x % 2 ^ m < y % 2 ^ m) else if op = 11 then decide (x % 2 ^ m ≤ y % 2 ^ m) else if op = 12 then decide (sgn (m : Int) (x % 2 ^ m) < sgn (m : Int) (y % 2 ^ m)) else decide (sgn (m : Int) (x % 2 ^ m) ≤ sgn (m : Int) (y % 2 ^ m)), 0) := by
  have nf : ¬ (false = true) := by decide
  have lx := lt64 h2 (Nat.mod_lt x (Nat.two_pow_pos m))
  have ly := lt64 h2 (Nat.mod_lt y (Nat.two_pow_pos m))
  unfold bits_Cmp.f
  rw [if_neg (show ¬ op < 9 by omega), decide_eq_false (show ¬ op > 13 by omega), bits_Cmp.j0, if_neg nf, Right_eq, Option.bind_some, if_pos (decide_eq_true ⟨by omega, by omega⟩), Trim_eq _ hx, Trim_eq _ hy, trn_in rfl h1 h2 hx, trn_in rfl h1 h2 hy]
  simp only [Option.bind_some]
  rw [Signed_eq _ lx, Signed_eq _ ly]
  simp only [Option.bind_some]
  generalize x % 2 ^ m = a
  generalize y % 2 ^ m = b
  by_cases c : op = 9
  · rw [if_pos c, if_pos c]
    congr 2
    rw [Bool.eq_iff_iff]; simp; omega
  rw [if_neg c, if_neg c]
  by_cases c : op = 10
  · rw [if_pos c, if_pos c]; congr 2; simp
  rw [if_neg c, if_neg c]
  by_cases c : op = 11
  · rw [if_pos c, if_pos c]; congr 2; simp
  rw [if_neg c, if_neg c]
  by_cases c : op = 12
  · rw [if_pos c, if_pos c]
  rw [if_neg c, if_neg c]

/-- The highest bit turned. -/
theorem xor_top {k a : Nat} (ha : a < 2 ^ (k + 1)) : ((a ^^^ 2 ^ k : Nat) : Int) = (if 2 ^ k ≤ a then (a : Int) - ((2 ^ (k + 1) : Nat) : Int) else (a : Int)) + ((2 ^ k : Nat) : Int) := by
  have low : ∀ b, b < 2 ^ k → b ^^^ 2 ^ k = 2 ^ k * 1 + b := by
    intro b hb
    refine Nat.eq_of_testBit_eq fun i => ?_
    rw [Nat.testBit_two_pow_mul_add _ hb, Nat.testBit_xor, Nat.testBit_two_pow]
    by_cases h : i < k
    · rw [if_pos h, decide_eq_false (by omega)]; simp
    · have hz : b.testBit i = false := Nat.testBit_lt_two_pow (Nat.lt_of_lt_of_le hb (Nat.pow_le_pow_right (by decide) (by omega)))
      rw [if_neg h, hz]
      by_cases g : k = i
      · subst g; simp
      · rw [decide_eq_false g]
        symm
        have : i - k = (i - k - 1) + 1 := by omega
        rw [this, Nat.testBit_succ]; simp
  have hs : 2 ^ (k + 1) = 2 * 2 ^ k := by rw [Nat.pow_succ]; omega
  by_cases g : 2 ^ k ≤ a
  · obtain ⟨b, rfl⟩ : ∃ b, a = 2 ^ k * 1 + b := ⟨a - 2 ^ k, by omega⟩
    have hb : b < 2 ^ k := by omega
    rw [← low b hb, Nat.xor_assoc, Nat.xor_self, Nat.xor_zero, low b hb, if_pos (by omega)]
    generalize 2 ^ k = P at *
    omega
  · rw [low a (by omega), if_neg g]
    generalize 2 ^ k = P at *
    omega

theorem sgn_top {m x : Nat} (h1 : 1 ≤ m) (h2 : m ≤ 64) (hx : x < 2 ^ m) : ((x ^^^ 2 ^ (m - 1) : Nat) : Int) = sgn (m : Int) x + ((2 ^ (m - 1) : Nat) : Int) := by
  obtain ⟨k, rfl⟩ : ∃ k, m = k + 1 := ⟨m - 1, by omega⟩
  rw [sgn_in h1 h2 hx, show k + 1 - 1 = k from rfl]
  exact xor_top hx

theorem sgn_inj {m x y : Nat} (h1 : 1 ≤ m) (h2 : m ≤ 64) (hx : x < 2 ^ m) (hy : y < 2 ^ m) : sgn (m : Int) x = sgn (m : Int) y ↔ x = y := by
  constructor
  · intro h
    have e1 := sgn_top h1 h2 hx
    have e2 := sgn_top h1 h2 hy
    have e3 : x ^^^ 2 ^ (m - 1) = y ^^^ 2 ^ (m - 1) := by omega
    have e4 := congrArg (· ^^^ 2 ^ (m - 1)) e3
    simpa [Nat.xor_assoc] using e4
  · rintro rfl; rfl

theorem order_round (k : Nat) {op : Int} {m x y t : Nat} {e : Bool} (h1 : 1 ≤ m) (h2 : m ≤ 64) (hx : x < 2 ^ 64) (hy : y < 2 ^ 64) (ho : op = 10 ∨ op = 12) (he : e = decide (x % 2 ^ m = y % 2 ^ m)) :
    cadencelaw01_BitsOrder.l0 (k + 4) (m : Int) (x : Int) (y : Int) (t : Int) e 0 op = cadencelaw01_BitsOrder.l0 (k + 1) (m : Int) (x : Int) (y : Int) (t : Int) e 0 (op + 2) := by
  have w2 : wrap64 (op + 2) = op + 2 := by rw [w64]; omega
  have w1 : wrap64 (op + 1) = op + 1 := by rw [w64]; omega
  have wa : wrap64 ((0 : Int) + 1) = 1 := by rw [w64]; omega
  have lx := Nat.mod_lt x (Nat.two_pow_pos m)
  have ly := Nat.mod_lt y (Nat.two_pow_pos m)
  obtain ⟨a, b, c, ea, eb, ec, habc⟩ : ∃ a b c : Bool, bits_Cmp.f (k + 3) op (m : Int) (x : Int) (y : Int) = some (a, 0) ∧ bits_Cmp.f (k + 3) op (m : Int) (y : Int) (x : Int) = some (b, 0) ∧ bits_Cmp.f (k + 3) (op + 1) (m : Int) (x : Int) (y : Int) = some (c, 0) ∧
      ((a = true ∧ b = false ∧ e = false ∧ c = true) ∨ (a = false ∧ b = true ∧ e = false ∧ c = false) ∨ (a = false ∧ b = false ∧ e = true ∧ c = true)) := by
    rw [Cmp_ok (k + 2) h1 h2 hx hy (by omega) (by omega), Cmp_ok (k + 2) h1 h2 hy hx (by omega) (by omega), Cmp_ok (k + 2) h1 h2 hx hy (by omega) (by omega)]
    refine ⟨_, _, _, rfl, rfl, rfl, ?_⟩
    subst he
    have hi := sgn_inj h1 h2 lx ly
    generalize x % 2 ^ m = p at *
    generalize y % 2 ^ m = q at *
    rcases ho with rfl | rfl
    · simp; omega
    · simp only [show ¬ (12 : Int) = 9 by decide, show ¬ (12 : Int) = 10 by decide, show ¬ (12 : Int) = 11 by decide, show ¬ ((12 : Int) + 1) = 9 by decide, show ¬ ((12 : Int) + 1) = 10 by decide, show ¬ ((12 : Int) + 1) = 11 by decide, show ¬ ((12 : Int) + 1) = 12 by decide, if_false, if_true]
      generalize sgn (m : Int) p = s at *
      generalize sgn (m : Int) q = t at *
      simp only [decide_eq_true_eq, decide_eq_false_iff_not, ← hi]
      omega
  rw [cadencelaw01_BitsOrder.l0, if_pos (by omega), ea, eb, w1, ec]
  simp only [Option.bind_some]
  rcases habc with ⟨rfl, rfl, rfl, rfl⟩ | ⟨rfl, rfl, rfl, rfl⟩ | ⟨rfl, rfl, rfl, rfl⟩
  · simp [cadencelaw01_BitsOrder.j1, cadencelaw01_BitsOrder.j2, w2]
  · simp [cadencelaw01_BitsOrder.j1, cadencelaw01_BitsOrder.j2, w2, wa]
    rw [show wrap64 1 = 1 from by rw [w64]; omega]; simp
  · simp [cadencelaw01_BitsOrder.j1, cadencelaw01_BitsOrder.j2, w2, wa]
    rw [show wrap64 1 = 1 from by rw [w64]; omega]; simp

theorem BitsOrder : cadencelaw01_BitsOrder.Pure := by
  intro w a b hw h2 h3
  obtain ⟨x, rfl, hx⟩ := wf_u64 h2
  obtain ⟨y, rfl, hy⟩ := wf_u64 h3
  refine ⟨10, ?_⟩
  unfold cadencelaw01_BitsOrder.f
  rw [alive10, Option.bind_some, if_pos rfl, Right_eq, Option.bind_some]
  by_cases hr : 1 ≤ w ∧ w ≤ 64
  · obtain ⟨m, rfl⟩ := Int.eq_ofNat_of_zero_le (show 0 ≤ w by omega)
    have h1 : 1 ≤ m := by omega
    have h2 : m ≤ 64 := by omega
    have hp := pow_lt64 (m := m - 1) (by omega)
    have ew : IntKind.u64.wrap (wrap64 ((m : Int) - 1)) = ((m - 1 : Nat) : Int) := by rw [u64w, w64]; omega
    have et : shl .u64 1 ((m - 1 : Nat) : Int) = ((2 ^ (m - 1) : Nat) : Int) := by
      rw [show (1 : Int) = ((1 : Nat) : Int) from rfl, shl_nat 1 rfl (by omega), Nat.one_mul, Nat.mod_eq_of_lt (by rw [p64]; omega)]
    have ht : 2 ^ (m - 1) < 2 ^ 64 := by rw [p64]; omega
    rw [if_pos (decide_eq_true hr), ew, if_pos (by omega), Cmp_ok 9 h1 h2 hx hy (by decide) (by decide), Option.bind_some, et, if_pos rfl]
    rw [order_round 6 h1 h2 hx hy (.inl rfl) rfl, show (10 : Int) + 2 = 12 from rfl, order_round 3 h1 h2 hx hy (.inr rfl) rfl, show (12 : Int) + 2 = 14 from rfl]
    rw [cadencelaw01_BitsOrder.l0, if_neg (by decide), xor_nat hx ht, xor_nat hy ht, Cmp_ok 2 h1 h2 hx hy (by decide) (by decide), Cmp_ok 2 h1 h2 (Nat.xor_lt_two_pow hx ht) (Nat.xor_lt_two_pow hy ht) (by decide) (by decide)]
    simp only [Option.bind_some, if_true]
    have ex : ∀ z : Nat, (z ^^^ 2 ^ (m - 1)) % 2 ^ m = (z % 2 ^ m) ^^^ 2 ^ (m - 1) := by
      intro z
      refine Nat.eq_of_testBit_eq fun i => ?_
      rw [Nat.testBit_mod_two_pow, Nat.testBit_xor, Nat.testBit_xor, Nat.testBit_mod_two_pow, Nat.testBit_two_pow]
      by_cases h : i < m
      · simp [h]
      · have : ¬ m - 1 = i := by omega
        simp [h, this]
    have lx := Nat.mod_lt x (Nat.two_pow_pos m)
    have ly := Nat.mod_lt y (Nat.two_pow_pos m)
    have sx := sgn_top h1 h2 lx
    have sy := sgn_top h1 h2 ly
    rw [ex, ex]
    simp only [show ¬ (12 : Int) = 9 by decide, show ¬ (12 : Int) = 10 by decide, show ¬ (12 : Int) = 11 by decide, show ¬ (10 : Int) = 9 by decide, if_false, if_true]
    congr 1
    rw [beq_iff_eq, Bool.eq_iff_iff, decide_eq_true_eq, decide_eq_true_eq]
    omega
  · rw [decide_eq_false hr, if_neg (by decide)]
end Go.Proofs.Ytklnafmoihkbhaa.C
