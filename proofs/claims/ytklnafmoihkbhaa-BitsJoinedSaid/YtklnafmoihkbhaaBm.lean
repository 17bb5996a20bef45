import Derived.Test.YtklnafmoihkbhaaWMore
import Derived.Test.YtklnafmoihkbhaaBn
namespace Go.Proofs.Ytklnafmoihkbhaa.Bm
open Go.RowKit Go.Proofs.YtklnafmoihkbhaaW.PrintWords Go.Proofs.YtklnafmoihkbhaaW.PrintLast Go.Proofs.YtklnafmoihkbhaaW.PrintMore

theorem u64w (n : Int) : IntKind.u64.wrap n = n % 18446744073709551616 := by simp [IntKind.wrap, IntKind.bits, IntKind.signed]
theorem i64w (n : Int) : IntKind.i64.wrap n = wrap64 n := IntWalk.i64_left n
theorem wf_i64 {a : Int} (h : (Lit.int .i64 a).wf = true) : -9223372036854775808 ≤ a ∧ a ≤ 9223372036854775807 := by
  have hmin : IntKind.i64.min = -9223372036854775808 := rfl
  have hmax : IntKind.i64.max = 9223372036854775807 := rfl
  simp only [Lit.wf, Bool.and_eq_true, decide_eq_true_eq] at h
  omega
theorem wf_u64 {a : Int} (h : (Lit.int .u64 a).wf = true) : ∃ n : Nat, a = n ∧ n < 2 ^ 64 := by
  have hmin : IntKind.u64.min = 0 := rfl
  have hmax : IntKind.u64.max = 18446744073709551615 := rfl
  simp only [Lit.wf, Bool.and_eq_true, decide_eq_true_eq] at h
  refine ⟨a.toNat, by omega, by omega⟩

theorem p64 : (2 : Nat) ^ 64 = 18446744073709551616 := by decide
theorem p63 : (2 : Nat) ^ 63 = 9223372036854775808 := by decide
theorem pow_lt64 {m : Nat} (h : m < 64) : 2 ^ m ≤ 9223372036854775808 := by
  rw [← p63]; exact Nat.pow_le_pow_right (by decide) (by omega)
theorem pow_le64 {m : Nat} (h : m ≤ 64) : 2 ^ m ≤ 18446744073709551616 := by
  rw [← p64]; exact Nat.pow_le_pow_right (by decide) h
theorem wraps_u64 (n : Int) (h₀ : 0 ≤ n) (h₁ : n < 2 ^ 64) : IntKind.u64.wrap n = n := by
  rw [u64w]; have : (2 : Int) ^ 64 = 18446744073709551616 := by decide
  omega
theorem and_nat {a b : Nat} (ha : a < 2 ^ 64) (hb : b < 2 ^ 64) : Go.bits .and .u64 (a : Int) (b : Int) = ((a &&& b : Nat) : Int) :=
  (bits_nat .u64 64 (by decide) wraps_u64 a b ha hb).1
theorem or_nat {a b : Nat} (ha : a < 2 ^ 64) (hb : b < 2 ^ 64) : Go.bits .or .u64 (a : Int) (b : Int) = ((a ||| b : Nat) : Int) :=
  (bits_nat .u64 64 (by decide) wraps_u64 a b ha hb).2
theorem xor_nat {a b : Nat} (ha : a < 2 ^ 64) (hb : b < 2 ^ 64) : Go.bits .xor .u64 (a : Int) (b : Int) = ((a ^^^ b : Nat) : Int) := by
  have ha' : a % 2 ^ IntKind.u64.bits = a := Nat.mod_eq_of_lt ha
  have hb' : b % 2 ^ IntKind.u64.bits = b := Nat.mod_eq_of_lt hb
  simp only [Go.bits, BitVec.ofInt_natCast, BitVec.toNat_xor, BitVec.toNat_ofNat, ha', hb']
  exact wraps_u64 _ (Int.natCast_nonneg _) (by exact_mod_cast Nat.xor_lt_two_pow ha hb)

theorem shl_nat (x : Nat) {n : Int} {m : Nat} (hn : n = m) (hm : m ≤ 64) : shl .u64 (x : Int) n = ((x * 2 ^ m % 2 ^ 64 : Nat) : Int) := by
  subst hn
  unfold shl
  rw [show min ((m : Int).toNat) IntKind.u64.bits = m from by simp [IntKind.bits]; omega, u64w, p64, Int.natCast_emod, Int.natCast_mul, Int.natCast_pow]
  rfl
theorem shr_nat (x : Nat) {n : Int} {m : Nat} (hn : n = m) (hm : m ≤ 64) : shr .u64 (x : Int) n = ((x / 2 ^ m : Nat) : Int) := by
  subst hn
  unfold shr
  rw [show min ((m : Int).toNat) IntKind.u64.bits = m from by simp [IntKind.bits]; omega]
  push_cast; rfl
theorem tmod_nat (a b : Nat) : Int.tmod (a : Int) (b : Int) = ((a % b : Nat) : Int) := by rw [Int.tmod_eq_emod_of_nonneg (by omega)]; simp
theorem tdiv_nat (a b : Nat) : Int.tdiv (a : Int) (b : Int) = ((a / b : Nat) : Int) := by rw [Int.tdiv_eq_ediv_of_nonneg (by omega)]; simp
theorem u64_nat (a : Nat) : IntKind.u64.wrap (a : Int) = ((a % 2 ^ 64 : Nat) : Int) := by rw [u64w, p64]; simp

/-- The lowest bits. -/
def trn (w : Int) (x : Nat) : Nat := if w < 1 then 0 else if w ≥ 64 then x else x % 2 ^ w.toNat
theorem trn_in {w : Int} {m x : Nat} (hw : w = m) (h1 : 1 ≤ m) (h2 : m ≤ 64) (hx : x < 2 ^ 64) : trn w x = x % 2 ^ m := by
  subst hw
  unfold trn
  rw [if_neg (by omega)]
  by_cases h : (m : Int) ≥ 64
  · rw [if_pos h]
    have : m = 64 := by omega
    subst this
    exact (Nat.mod_eq_of_lt hx).symm
  · rw [if_neg h]; simp
theorem trn_lt {w : Int} {m x : Nat} (hw : w = m) (h1 : 1 ≤ m) (h2 : m ≤ 64) (hx : x < 2 ^ 64) : trn w x < 2 ^ m := by
  rw [trn_in hw h1 h2 hx]; exact Nat.mod_lt _ (Nat.two_pow_pos m)
theorem trn_le {w : Int} {x : Nat} (hx : x < 2 ^ 64) : trn w x < 2 ^ 64 := by
  unfold trn
  split
  · decide
  · split
    · exact hx
    · exact Nat.lt_of_le_of_lt (Nat.mod_le _ _) hx

/-- What both texts' Trim come to: a mask. -/
theorem mask_is {w : Int} {x : Nat} (hx : x < 2 ^ 64) (h1 : ¬ w < 1) (h2 : ¬ w ≥ 64) : 0 ≤ IntKind.u64.wrap w ∧ Go.bits .and .u64 (x : Int) (IntKind.u64.wrap ((shl .u64 1 (IntKind.u64.wrap w)) - 1)) = (trn w x : Int) ∧
    shl .u64 1 (IntKind.u64.wrap w) ≠ 0 ∧ Int.tmod (x : Int) (shl .u64 1 (IntKind.u64.wrap w)) = (trn w x : Int) := by
  obtain ⟨m, rfl⟩ := Int.eq_ofNat_of_zero_le (show 0 ≤ w by omega)
  have hp : 2 ^ m ≤ 9223372036854775808 := pow_lt64 (by omega)
  have hpos : 0 < 2 ^ m := Nat.two_pow_pos m
  have e : IntKind.u64.wrap (m : Int) = (m : Int) := by rw [u64w]; omega
  have es : shl .u64 1 (IntKind.u64.wrap (m : Int)) = ((2 ^ m : Nat) : Int) := by
    rw [e, show (1 : Int) = ((1 : Nat) : Int) from rfl, shl_nat 1 rfl (by omega), Nat.one_mul, Nat.mod_eq_of_lt (by rw [p64]; omega)]
  have et : trn (m : Int) x = x % 2 ^ m := trn_in rfl (by omega) (by omega) hx
  refine ⟨by rw [e]; omega, ?_, ?_, ?_⟩
  · rw [es, show ((2 ^ m : Nat) : Int) - 1 = ((2 ^ m - 1 : Nat) : Int) from by omega, u64_nat, Nat.mod_eq_of_lt (by rw [p64]; omega), and_nat hx (by rw [p64]; omega), Nat.and_two_pow_sub_one_eq_mod, et]
  · rw [es]; omega
  · rw [es, tmod_nat, et]

/-- The signed number. -/
def sgn (w : Int) (x : Nat) : Int := if 1 ≤ w ∧ w ≤ 64 then (if 2 ^ (w - 1).toNat ≤ trn w x then (trn w x : Int) - ((2 ^ w.toNat : Nat) : Int) else (trn w x : Int)) else 0
theorem w64 (n : Int) : wrap64 n = (n + 9223372036854775808) % 18446744073709551616 - 9223372036854775808 := by unfold wrap64; rfl

theorem signed_prog {w : Int} {x : Nat} (hx : x < 2 ^ 64) (h1 : 1 ≤ w) (h2 : w ≤ 64) : 0 ≤ IntKind.u64.wrap (wrap64 (64 - w)) ∧
    shr .i64 (wrap64 (shl .u64 (x : Int) (IntKind.u64.wrap (wrap64 (64 - w))))) (IntKind.u64.wrap (wrap64 (64 - w))) = sgn w x := by
  obtain ⟨m, rfl⟩ := Int.eq_ofNat_of_zero_le (show 0 ≤ w by omega)
  obtain ⟨m, rfl⟩ : ∃ k, m = k + 1 := ⟨m - 1, by omega⟩
  have e : IntKind.u64.wrap (wrap64 (64 - ((m + 1 : Nat) : Int))) = ((63 - m : Nat) : Int) := by rw [u64w, w64]; omega
  have et : trn ((m + 1 : Nat) : Int) x = x % 2 ^ (m + 1) := trn_in rfl (by omega) (by omega) hx
  refine ⟨by rw [e]; omega, ?_⟩
  have hq : 2 ^ (m + 1) * 2 ^ (63 - m) = 2 ^ 64 := by rw [← Nat.pow_add]; congr 1; omega
  have hh : 2 ^ m * 2 ^ (63 - m) = 2 ^ 63 := by rw [← Nat.pow_add]; congr 1; omega
  have hpos : 0 < 2 ^ (63 - m) := Nat.two_pow_pos _
  rw [e, shl_nat x rfl (by omega)]
  have em : x * 2 ^ (63 - m) % 2 ^ 64 = (x % 2 ^ (m + 1)) * 2 ^ (63 - m) := by
    rw [← hq, Nat.mul_mod_mul_right]
  rw [em]
  unfold sgn
  rw [if_pos ⟨by omega, by omega⟩, et, show (((m + 1 : Nat) : Int) - 1).toNat = m from by omega, show ((m + 1 : Nat) : Int).toNat = m + 1 from by omega]
  generalize ht : x % 2 ^ (m + 1) = t
  have htl : t < 2 ^ (m + 1) := by rw [← ht]; exact Nat.mod_lt _ (Nat.two_pow_pos _)
  generalize hqe : 2 ^ (63 - m) = q at *
  have hsh : ∀ z : Int, shr .i64 z ((63 - m : Nat) : Int) = z / (q : Int) := by
    intro z; unfold shr
    rw [show min (((63 - m : Nat) : Int).toNat) IntKind.i64.bits = 63 - m from by simp [IntKind.bits]; omega, ← hqe]
    push_cast; rfl
  rw [hsh]
  have hlt : t * q < 2 ^ (m + 1) * q := Nat.mul_lt_mul_of_pos_right htl hpos
  rw [p64] at hq
  rw [p63] at hh
  by_cases hge : 2 ^ m ≤ t
  · rw [if_pos hge]
    have hge' : 2 ^ m * q ≤ t * q := Nat.mul_le_mul_right q hge
    have : wrap64 ((t * q : Nat) : Int) = ((t : Int) - ((2 ^ (m + 1) : Nat) : Int)) * (q : Int) := by
      rw [Int.sub_mul, w64]
      have h3 : ((2 ^ (m + 1) : Nat) : Int) * (q : Int) = 18446744073709551616 := by rw [← Int.natCast_mul, hq]; rfl
      rw [h3]
      have h4 : ((t * q : Nat) : Int) = (t : Int) * (q : Int) := Int.natCast_mul _ _
      rw [← h4]
      omega
    rw [this]
    exact Int.mul_ediv_cancel _ (by omega)
  · rw [if_neg hge]
    have hge' : t * q < 2 ^ m * q := Nat.mul_lt_mul_of_pos_right (by omega) hpos
    rw [w64]
    have h5 : (((t * q : Nat) : Int) + 9223372036854775808) % 18446744073709551616 - 9223372036854775808 = ((t * q : Nat) : Int) := by omega
    rw [h5, Int.natCast_mul]
    exact Int.mul_ediv_cancel _ (by omega)

theorem bit_nat (x : Nat) {i : Int} {m : Nat} (hi : i = m) (hm : m ≤ 64) : 0 ≤ IntKind.u64.wrap i ∧ Int.tmod (shr .u64 (x : Int) (IntKind.u64.wrap i)) 2 = ((x / 2 ^ m % 2 : Nat) : Int) := by
  subst hi
  have e : IntKind.u64.wrap (m : Int) = (m : Int) := by rw [u64w]; omega
  refine ⟨by rw [e]; omega, ?_⟩
  rw [e, shr_nat x rfl hm, show (2 : Int) = ((2 : Nat) : Int) from rfl, tmod_nat]

theorem high_bit {t m : Nat} (h : t < 2 ^ (m + 1)) : t / 2 ^ m % 2 = if 2 ^ m ≤ t then 1 else 0 := by
  rw [Nat.pow_succ] at h
  have hpos := Nat.two_pow_pos m
  by_cases hge : 2 ^ m ≤ t
  · rw [if_pos hge, Nat.div_eq_of_lt_le (k := 1) (by omega) (by omega)]
  · rw [if_neg hge, Nat.div_eq_of_lt (by omega)]

end Go.Proofs.Ytklnafmoihkbhaa.Bm
