import Derived.Test.YtklnafmoihkbhaaBp
namespace Go.Proofs.Ytklnafmoihkbhaa.C
open Go.RowKit Go.Proofs.YtklnafmoihkbhaaW.PrintWords Go.Proofs.YtklnafmoihkbhaaW.PrintLast Go.Proofs.YtklnafmoihkbhaaW.PrintMore
open Bm

theorem shifts_eq (op : Int) : bits_shifts.f op = some (decide (25 ≤ op ∧ op ≤ 29)) := by
  unfold bits_shifts.f
  by_cases h : op ≥ 25
  · rw [if_pos h]; congr 1; by_cases h2 : op ≤ 29 <;> simp [h2]; omega
  · rw [if_neg h]; congr 1; symm; apply decide_eq_false; omega
/-- Is it a width of shifts? -/
def pw (m : Nat) : Bool := m == 1 || m == 2 || m == 4 || m == 8 || m == 16 || m == 32 || m == 64
theorem ones_all : ∀ m : Fin 65, 1 ≤ m.val → (match bits_OnesCount.f (m.val : Int) with | some c => (c != 1) == !(pw m.val) | none => false) = true := by decide +kernel
theorem ones_eq {m : Nat} (h1 : 1 ≤ m) (h2 : m ≤ 64) : ∃ c, bits_OnesCount.f (m : Int) = some c ∧ (c != 1) = !(pw m) := by
  have h := ones_all ⟨m, by omega⟩ h1
  simp only at h
  split at h
  · rename_i c hc
    exact ⟨c, hc, by simpa using h⟩
  · exact absurd h (by decide)

/-- An operation that neither shifts nor turns. -/
def opn (op : Int) (m x y : Nat) : Nat :=
  if op = 17 then x &&& y else if op = 18 then x ||| y else if op = 19 then x ^^^ y
  else if op = 20 then (x + y) % 2 ^ m else if op = 21 then (x + 2 ^ m - y) % 2 ^ m else if op = 22 then x * y % 2 ^ m
  else if op = 23 then (if y = 0 then 2 ^ m - 1 else x / y) else (if y = 0 then x else x % y)
/-- What Bin comes to. -/
def binn (op w : Int) (x y : Nat) : Int × Int :=
  if op < 17 ∨ 29 < op then (0, 73) else if ¬ (1 ≤ w ∧ w ≤ 64) ∨ (25 ≤ op ∧ pw w.toNat = false) then (0, 5)
  else if 25 ≤ op then ((movn op w.toNat (x % 2 ^ w.toNat) (y % 2 ^ w.toNat % w.toNat) : Int), 0) else ((opn op w.toNat (x % 2 ^ w.toNat) (y % 2 ^ w.toNat) : Int), 0)

theorem trim_lt {m z : Nat} (h1 : 1 ≤ m) (h2 : m ≤ 64) (hz : z < 2 ^ m) : bits_Trim.f (m : Int) (z : Int) = some (z : Int) := by
  rw [Trim_eq _ (lt64 h2 hz), trn_in rfl h1 h2 (lt64 h2 hz), Nat.mod_eq_of_lt hz]
theorem trim_wrap {m z : Nat} (h1 : 1 ≤ m) (h2 : m ≤ 64) : bits_Trim.f (m : Int) (IntKind.u64.wrap (z : Int)) = some ((z % 2 ^ m : Nat) : Int) := by
  rw [u64_nat, Trim_eq _ (Nat.mod_lt _ (Nat.two_pow_pos _)), trn_in rfl h1 h2 (Nat.mod_lt _ (Nat.two_pow_pos _)), mod_mod_pow _ h2]
theorem sub_wrap {m x y : Nat} (h2 : m ≤ 64) (hx : x < 2 ^ m) (hy : y < 2 ^ m) :
    ∃ z : Nat, IntKind.u64.wrap ((x : Int) - (y : Int)) = IntKind.u64.wrap (z : Int) ∧ z % 2 ^ m = (x + 2 ^ m - y) % 2 ^ m := by
  have hp := pow_le64 h2
  refine ⟨x + 2 ^ 64 - y, ?_, ?_⟩
  · rw [u64w, u64w, p64]
    generalize 2 ^ m = P at *
    omega
  · have hd : 2 ^ 64 = 2 ^ m + 2 ^ m * (2 ^ (64 - m) - 1) := by
      have h3 : 2 ^ m * 2 ^ (64 - m) = 2 ^ 64 := by rw [← Nat.pow_add]; congr 1; omega
      have h4 : 2 ^ m * (2 ^ (64 - m) - 1) + 2 ^ m = 2 ^ m * 2 ^ (64 - m) := by
        have := Nat.two_pow_pos (64 - m)
        rw [← Nat.mul_succ]; congr 1; omega
      omega
    rw [hd, show x + (2 ^ m + 2 ^ m * (2 ^ (64 - m) - 1)) - y = (x + 2 ^ m - y) + 2 ^ m * (2 ^ (64 - m) - 1) from by omega, Nat.add_mul_mod_self_left]

theorem ones_mod {m : Nat} (h2 : m ≤ 64) : (2 ^ 64 - 1) % 2 ^ m = 2 ^ m - 1 := by
  refine Nat.eq_of_testBit_eq fun i => ?_
  rw [Nat.testBit_mod_two_pow, Nat.testBit_two_pow_sub_one, Nat.testBit_two_pow_sub_one]
  by_cases h : i < m
  · have : i < 64 := by omega
    simp [h, this]
  · simp [h]

theorem j1_eq (k : Nat) {op : Int} {m x y : Nat} (h1 : 1 ≤ m) (h2 : m ≤ 64) (hx : x < 2 ^ 64) (hy : y < 2 ^ 64) (o1 : 17 ≤ op) (o2 : op ≤ 29) :
    bits_Bin.j1 (k + 1) op (m : Int) (x : Int) (y : Int) false = some (if 25 ≤ op then ((movn op m (x % 2 ^ m) (y % 2 ^ m % m) : Int), 0) else ((opn op m (x % 2 ^ m) (y % 2 ^ m) : Int), 0)) := by
  rw [bits_Bin.j1, if_neg (by simp), Trim_eq _ hx, Trim_eq _ hy, trn_in rfl h1 h2 hx, trn_in rfl h1 h2 hy]
  simp only [Option.bind_some]
  rw [shifts_eq]; simp only [Option.bind_some]
  have lx : x % 2 ^ m < 2 ^ m := Nat.mod_lt _ (Nat.two_pow_pos m)
  have ly : y % 2 ^ m < 2 ^ m := Nat.mod_lt _ (Nat.two_pow_pos m)
  generalize x % 2 ^ m = a at *
  generalize y % 2 ^ m = b at *
  have hwm : IntKind.u64.wrap (m : Int) = (m : Int) := wrapin (by omega) (by omega)
  by_cases s : 25 ≤ op
  · have lb : b % m < m := Nat.mod_lt _ (by omega)
    have e : wrap64 (Int.tmod (b : Int) (m : Int)) = ((b % m : Nat) : Int) := by rw [tmod_nat, w64]; omega
    rw [if_pos (decide_eq_true ⟨s, o2⟩), if_pos s, hwm, if_neg (by omega), e, moved_eq op h1 h2 lx lb, Option.bind_some]
  · rw [if_neg (by simp [s]), if_neg s]
    unfold opn
    have la := lt64 h2 lx
    have lb := lt64 h2 ly
    by_cases c : op = 17
    · rw [if_pos c, if_pos c, and_nat la lb, trim_lt h1 h2 (Nat.and_lt_two_pow _ ly), Option.bind_some]
    rw [if_neg c, if_neg c]
    by_cases c : op = 18
    · rw [if_pos c, if_pos c, or_nat la lb, trim_lt h1 h2 (Nat.or_lt_two_pow lx ly), Option.bind_some]
    rw [if_neg c, if_neg c]
    by_cases c : op = 19
    · rw [if_pos c, if_pos c, xor_nat la lb, trim_lt h1 h2 (Nat.xor_lt_two_pow lx ly), Option.bind_some]
    rw [if_neg c, if_neg c]
    by_cases c : op = 20
    · rw [if_pos c, if_pos c, show (a : Int) + (b : Int) = ((a + b : Nat) : Int) from by omega, trim_wrap h1 h2, Option.bind_some]
    rw [if_neg c, if_neg c]
    by_cases c : op = 21
    · obtain ⟨z, e1, e2⟩ := sub_wrap h2 lx ly
      rw [if_pos c, if_pos c, e1, trim_wrap h1 h2, Option.bind_some, e2]
    rw [if_neg c, if_neg c]
    by_cases c : op = 22
    · rw [if_pos c, if_pos c, ← Int.natCast_mul, trim_wrap h1 h2, Option.bind_some]
    rw [if_neg c, if_neg c]
    by_cases c : op = 23
    · rw [if_pos c, if_pos c]
      by_cases z : b = 0
      · have hall : (18446744073709551615 : Int) = ((2 ^ 64 - 1 : Nat) : Int) := by decide
        have hl : 2 ^ 64 - 1 < 2 ^ 64 := by decide
        rw [if_pos (by omega), if_pos z, hall, Trim_eq _ hl, Option.bind_some, trn_in rfl h1 h2 hl, ones_mod h2]
      · have l : a / b < 2 ^ m := Nat.lt_of_le_of_lt (Nat.div_le_self _ _) lx
        rw [if_neg (by omega), if_neg z, tdiv_nat, u64_nat, Nat.mod_eq_of_lt (lt64 h2 l), trim_lt h1 h2 l, Option.bind_some]
    rw [if_neg c, if_neg c, if_pos (show op = 24 by omega)]
    by_cases z : b = 0
    · rw [if_pos (by omega), if_pos z, trim_lt h1 h2 lx, Option.bind_some]
    · have l : a % b < 2 ^ m := Nat.lt_of_le_of_lt (Nat.mod_le _ _) lx
      rw [if_neg (by omega), if_neg z, tmod_nat, trim_lt h1 h2 l, Option.bind_some]

theorem Bin_eq (k : Nat) (op w : Int) {x y : Nat} (hx : x < 2 ^ 64) (hy : y < 2 ^ 64) : bits_Bin.f (k + 2) op w (x : Int) (y : Int) = some (binn op w x y) := by
  unfold bits_Bin.f binn
  by_cases a1 : op < 17
  · rw [if_pos a1, bits_Bin.j0, if_pos rfl, if_pos (.inl a1)]
  rw [if_neg a1]
  by_cases a2 : op > 29
  · rw [decide_eq_true a2, bits_Bin.j0, if_pos rfl, if_pos (.inr a2)]
  rw [decide_eq_false a2, bits_Bin.j0, if_neg (by simp), Right_eq, Option.bind_some, if_neg (show ¬ (op < 17 ∨ 29 < op) by omega)]
  by_cases hw : 1 ≤ w ∧ w ≤ 64
  · obtain ⟨m, rfl⟩ := Int.eq_ofNat_of_zero_le (show 0 ≤ w by omega)
    have h1 : 1 ≤ m := by omega
    have h2 : m ≤ 64 := by omega
    rw [if_pos (decide_eq_true hw), shifts_eq, Option.bind_some, Int.toNat_natCast]
    by_cases s : 25 ≤ op
    · obtain ⟨c, e1, e2⟩ := ones_eq h1 h2
      rw [if_pos (decide_eq_true ⟨s, by omega⟩), wrapin (by omega) (by omega), e1, Option.bind_some, e2]
      cases hp : pw m with
      | true =>
        rw [if_neg (by simp [hw])]
        exact j1_eq k h1 h2 hx hy (by omega) (by omega)
      | false =>
        rw [if_pos (.inr ⟨s, rfl⟩)]
        simp [bits_Bin.j1]
    · rw [if_neg (by simp [s]), if_neg (by intro h; rcases h with h | h; exact h hw; exact s h.1)]
      exact j1_eq k h1 h2 hx hy (by omega) (by omega)
  · rw [if_neg (by simpa using hw), if_pos (.inl hw), bits_Bin.j1, if_pos rfl]
end Go.Proofs.Ytklnafmoihkbhaa.C
