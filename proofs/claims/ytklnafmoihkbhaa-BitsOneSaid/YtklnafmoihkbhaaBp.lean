import Derived.Test.YtklnafmoihkbhaaBm
import Derived.Test.YtklnafmoihkbhaaCa
namespace Go.Proofs.Ytklnafmoihkbhaa.C
open Go.RowKit Go.Proofs.YtklnafmoihkbhaaW.PrintWords Go.Proofs.YtklnafmoihkbhaaW.PrintLast Go.Proofs.YtklnafmoihkbhaaW.PrintMore
open Bm

theorem Right_eq (w : Int) : bits_Right.f w = some (decide (1 ≤ w ∧ w ≤ 64)) := by
  unfold bits_Right.f
  by_cases h : w ≥ 1
  · rw [if_pos h]; congr 1; by_cases h2 : w ≤ 64 <;> simp [h2]; omega
  · rw [if_neg h]; congr 1; symm; apply decide_eq_false; omega
theorem Trim_eq (w : Int) {x : Nat} (hx : x < 2 ^ 64) : bits_Trim.f w (x : Int) = some (trn w x : Int) := by
  unfold bits_Trim.f
  by_cases h1 : w < 1
  · rw [if_pos h1]; unfold trn; rw [if_pos h1]; rfl
  · rw [if_neg h1]
    by_cases h2 : w ≥ 64
    · rw [if_pos h2]; unfold trn; rw [if_neg h1, if_pos h2]
    · obtain ⟨a, b, _, _⟩ := mask_is hx h1 h2
      rw [if_neg h2, if_pos a, b]
theorem Signed_eq (w : Int) {x : Nat} (hx : x < 2 ^ 64) : bits_Signed.f w (x : Int) = some (sgn w x) := by
  unfold bits_Signed.f
  rw [Right_eq]; simp only [Option.bind_some]
  by_cases h : 1 ≤ w ∧ w ≤ 64
  · obtain ⟨a, b⟩ := signed_prog hx h.1 h.2
    rw [if_pos (decide_eq_true h), if_pos a, b]
  · rw [if_neg (by simpa using h)]; unfold sgn; rw [if_neg h]

theorem sgn_in {m x : Nat} (h1 : 1 ≤ m) (h2 : m ≤ 64) (hx : x < 2 ^ m) : sgn (m : Int) x = if 2 ^ (m - 1) ≤ x then (x : Int) - ((2 ^ m : Nat) : Int) else (x : Int) := by
  unfold sgn
  rw [if_pos ⟨by omega, by omega⟩, trn_in rfl h1 h2 (Nat.lt_of_lt_of_le hx (by rw [p64]; exact pow_le64 h2)), Nat.mod_eq_of_lt hx, show ((m : Int) - 1).toNat = m - 1 from by omega]
  rfl

/-- A word shifted or turned. -/
def movn (op : Int) (m x n : Nat) : Nat :=
  if op = 25 then x * 2 ^ n % 2 ^ m else if op = 26 then x / 2 ^ n
  else if op = 27 then (if 2 ^ (m - 1) ≤ x then (x + 2 ^ m * (2 ^ n - 1)) / 2 ^ n else x / 2 ^ n)
  else if op = 29 then (x * 2 ^ ((m - n) % m) ||| x / 2 ^ (m - (m - n) % m)) % 2 ^ m
  else (x * 2 ^ n ||| x / 2 ^ (m - n)) % 2 ^ m

theorem mod_mod_pow (z : Nat) {m : Nat} (h : m ≤ 64) : z % 2 ^ 64 % 2 ^ m = z % 2 ^ m := Nat.mod_mod_of_dvd _ (Nat.pow_dvd_pow 2 h)
theorem lt64 {m x : Nat} (h2 : m ≤ 64) (hx : x < 2 ^ m) : x < 2 ^ 64 := Nat.lt_of_lt_of_le hx (by rw [p64]; exact pow_le64 h2)

theorem turn_eq {m x n : Nat} (h1 : 1 ≤ m) (h2 : m ≤ 64) (hx : x < 2 ^ m) (hn : n ≤ m) {a b : Int} (ha : a = n) (hb : b = ((m - n : Nat) : Int)) :
    bits_Trim.f (m : Int) (Go.bits .or .u64 (shl .u64 (x : Int) a) (shr .u64 (x : Int) b)) = some (((x * 2 ^ n ||| x / 2 ^ (m - n)) % 2 ^ m : Nat) : Int) := by
  rw [shl_nat x ha (by omega), shr_nat x hb (by omega)]
  have l1 : x * 2 ^ n % 2 ^ 64 < 2 ^ 64 := Nat.mod_lt _ (Nat.two_pow_pos _)
  have l2 : x / 2 ^ (m - n) < 2 ^ 64 := Nat.lt_of_le_of_lt (Nat.div_le_self _ _) (lt64 h2 hx)
  rw [or_nat l1 l2, Trim_eq _ (Nat.or_lt_two_pow l1 l2), trn_in rfl h1 h2 (Nat.or_lt_two_pow l1 l2)]
  congr 2
  rw [Nat.or_mod_two_pow, mod_mod_pow _ h2, ← Nat.or_mod_two_pow]

theorem wrapin {a : Int} (h0 : 0 ≤ a) (h1 : a < 18446744073709551616) : IntKind.u64.wrap a = a := by rw [u64w]; omega

theorem moved_eq (op : Int) {m x n : Nat} (h1 : 1 ≤ m) (h2 : m ≤ 64) (hx : x < 2 ^ m) (hn : n < m) :
    bits_moved.f op (m : Int) (x : Int) (n : Int) = some (movn op m x n : Int) := by
  have hx64 := lt64 h2 hx
  have e : IntKind.u64.wrap (n : Int) = (n : Int) := wrapin (by omega) (by omega)
  unfold bits_moved.f movn
  by_cases c : op = 25
  · rw [if_pos c, if_pos c, if_pos (by rw [e]; omega), e, shl_nat x rfl (by omega), Trim_eq _ (Nat.mod_lt _ (Nat.two_pow_pos _)), Option.bind_some, trn_in rfl h1 h2 (Nat.mod_lt _ (Nat.two_pow_pos _)), mod_mod_pow _ h2]
  rw [if_neg c, if_neg c]
  by_cases c : op = 26
  · rw [if_pos c, if_pos c, if_pos (by rw [e]; omega), e, shr_nat x rfl (by omega)]
  rw [if_neg c, if_neg c]
  by_cases c : op = 27
  · rw [if_pos c, if_pos c, Signed_eq _ hx64, Option.bind_some, if_pos (by rw [e]; omega), e, sgn_in h1 h2 hx]
    have hs : ∀ z : Int, shr .i64 z (n : Int) = z / ((2 ^ n : Nat) : Int) := by
      intro z; unfold shr
      rw [show min (((n : Nat) : Int).toNat) IntKind.i64.bits = n from by simp [IntKind.bits]; omega, Int.natCast_pow]; rfl
    rw [hs]
    by_cases g : 2 ^ (m - 1) ≤ x
    · rw [if_pos g, if_pos g]
      have hM : (x + 2 ^ m * (2 ^ n - 1)) / 2 ^ n < 2 ^ m := by
        rw [Nat.div_lt_iff_lt_mul (Nat.two_pow_pos n), Nat.mul_sub, Nat.mul_one]
        have : 2 ^ m ≤ 2 ^ m * 2 ^ n := Nat.le_mul_of_pos_right _ (Nat.two_pow_pos n)
        omega
      have key : IntKind.u64.wrap (((x : Int) - ((2 ^ m : Nat) : Int)) / ((2 ^ n : Nat) : Int)) = (((x + 2 ^ m * (2 ^ n - 1)) / 2 ^ n + (2 ^ 64 - 2 ^ m) : Nat) : Int) := by
        have hd : ((x : Int) - ((2 ^ m : Nat) : Int)) / ((2 ^ n : Nat) : Int) = (((x + 2 ^ m * (2 ^ n - 1)) / 2 ^ n : Nat) : Int) - ((2 ^ m : Nat) : Int) := by
          have hne : ((2 ^ n : Nat) : Int) ≠ 0 := by have := Nat.two_pow_pos n; omega
          have hs1 : (x : Int) - ((2 ^ m : Nat) : Int) = ((x + 2 ^ m * (2 ^ n - 1) : Nat) : Int) + (-((2 ^ m : Nat) : Int)) * ((2 ^ n : Nat) : Int) := by
            have h3 : 2 ^ m * (2 ^ n - 1) + 2 ^ m = 2 ^ m * 2 ^ n := by
              have := Nat.two_pow_pos n
              rw [← Nat.mul_succ]; congr 1; omega
            have h4 : ((2 ^ m : Nat) : Int) * ((2 ^ n : Nat) : Int) = ((2 ^ m * (2 ^ n - 1) + 2 ^ m : Nat) : Int) := by rw [h3, Int.natCast_mul]
            rw [Int.neg_mul, h4, Int.natCast_add, Int.natCast_add]; omega
          rw [hs1, Int.add_mul_ediv_right _ _ hne, ← Int.natCast_ediv]; omega
        rw [hd, u64w]
        have hp := pow_le64 h2
        rw [p64]
        generalize (x + 2 ^ m * (2 ^ n - 1)) / 2 ^ n = M at *
        generalize 2 ^ m = P at *
        omega
      rw [key]
      have hl : (x + 2 ^ m * (2 ^ n - 1)) / 2 ^ n + (2 ^ 64 - 2 ^ m) < 2 ^ 64 := by
        have := pow_le64 h2; rw [p64]; omega
      rw [Trim_eq _ hl, Option.bind_some, trn_in rfl h1 h2 hl]
      congr 2
      have hdv : 2 ^ 64 - 2 ^ m = 2 ^ m * (2 ^ (64 - m) - 1) := by
        rw [Nat.mul_sub, ← Nat.pow_add, Nat.mul_one]; congr 2; omega
      rw [hdv, Nat.add_mul_mod_self_left, Nat.mod_eq_of_lt hM]
    · rw [if_neg g, if_neg g, ← Int.natCast_ediv, u64_nat]
      have l : x / 2 ^ n < 2 ^ m := Nat.lt_of_le_of_lt (Nat.div_le_self _ _) hx
      rw [Nat.mod_eq_of_lt (lt64 h2 l), Trim_eq _ (lt64 h2 l), Option.bind_some, trn_in rfl h1 h2 (lt64 h2 l), Nat.mod_eq_of_lt l]
  rw [if_neg c, if_neg c]
  have ew : wrap64 ((m : Int) - (n : Int)) = ((m - n : Nat) : Int) := by rw [w64]; omega
  by_cases c : op = 29
  · have et : Int.tmod (wrap64 ((m : Int) - (n : Int))) (m : Int) = (((m - n) % m : Nat) : Int) := by rw [ew, tmod_nat]
    have hk : (m - n) % m < m := Nat.mod_lt _ (by omega)
    have ew2 : wrap64 ((m : Int) - (((m - n) % m : Nat) : Int)) = ((m - (m - n) % m : Nat) : Int) := by rw [w64]; omega
    rw [if_pos c, if_pos c, if_neg (by omega), et, ew2, wrapin (by omega) (by omega), wrapin (by omega) (by omega), if_pos (by omega), if_pos (by omega), turn_eq h1 h2 hx (by omega) rfl rfl, Option.bind_some]
  rw [if_neg c, if_neg c, ew, e, wrapin (by omega) (by omega), if_pos (by omega), if_pos (by omega), turn_eq h1 h2 hx (by omega) rfl rfl, Option.bind_some]
end Go.Proofs.Ytklnafmoihkbhaa.C
