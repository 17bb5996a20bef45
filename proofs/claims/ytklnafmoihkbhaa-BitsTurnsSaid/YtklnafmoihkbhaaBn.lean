namespace Go.Proofs.Ytklnafmoihkbhaa.Bn

theorem rolbit (m x n i : Nat) (hx : x < 2 ^ m) (hn : n < m) (hi : i < m) :
    ((x * 2 ^ n ||| x / 2 ^ (m - n)) % 2 ^ m).testBit i = x.testBit ((i + (m - n)) % m) := by
  rw [Nat.testBit_mod_two_pow, Nat.testBit_or, ← Nat.shiftLeft_eq, ← Nat.shiftRight_eq_div_pow, Nat.testBit_shiftLeft, Nat.testBit_shiftRight]
  by_cases h : n ≤ i
  · have e : (i + (m - n)) % m = i - n := by
      rw [show i + (m - n) = (i - n) + m from by omega, Nat.add_mod_right]
      exact Nat.mod_eq_of_lt (by omega)
    have z : x.testBit (m - n + i) = false := Nat.testBit_lt_two_pow (Nat.lt_of_lt_of_le hx (Nat.pow_le_pow_right (by decide) (by omega)))
    rw [e, z]; simp [hi, h]
  · have e : (i + (m - n)) % m = m - n + i := by
      rw [Nat.add_comm]; exact Nat.mod_eq_of_lt (by omega)
    rw [e]; simp [hi, h]

theorem shlbit (m x n i : Nat) (hi : i < m) : (x * 2 ^ n % 2 ^ m).testBit i = (decide (n ≤ i) && x.testBit (i - n)) := by
  rw [Nat.testBit_mod_two_pow, ← Nat.shiftLeft_eq, Nat.testBit_shiftLeft]
  simp [hi]

theorem shrbit (m x n i : Nat) (hx : x < 2 ^ m) : (x / 2 ^ n).testBit i = (decide (i + n < m) && x.testBit (i + n)) := by
  rw [← Nat.shiftRight_eq_div_pow, Nat.testBit_shiftRight, Nat.add_comm n i]
  by_cases h : i + n < m
  · simp [h]
  · have z : x.testBit (i + n) = false := Nat.testBit_lt_two_pow (Nat.lt_of_lt_of_le hx (Nat.pow_le_pow_right (by decide) (by omega)))
    simp [h, z]

/-- What comes of an arithmetic shift to the right of a word whose highest bit is 1. -/
theorem sarbit (m x n i : Nat) (hx : x < 2 ^ m) (hh : x.testBit (m - 1) = true) (hm : 0 < m) (hi : i < m) :
    ((x + 2 ^ m * (2 ^ n - 1)) / 2 ^ n).testBit i = x.testBit (min (i + n) (m - 1)) := by
  rw [← Nat.shiftRight_eq_div_pow, Nat.testBit_shiftRight, Nat.add_comm x, Nat.testBit_two_pow_mul_add _ hx, Nat.add_comm n i]
  by_cases h : i + n < m
  · rw [if_pos h, Nat.min_eq_left (by omega)]
  · rw [if_neg h, Nat.min_eq_right (by omega), hh, Nat.testBit_two_pow_sub_one]
    simp; omega

theorem bit_div (x i : Nat) : (x.testBit i).toNat = x / 2 ^ i % 2 := by
  rw [Nat.testBit_eq_decide_div_mod_eq]
  have := Nat.mod_lt (x / 2 ^ i) (show 0 < 2 by decide)
  by_cases h : x / 2 ^ i % 2 = 1 <;> simp [h]
  omega

theorem half (N j : Nat) : 2 * (N / 2 ^ (j + 1)) + N / 2 ^ j % 2 = N / 2 ^ j := by
  rw [Nat.pow_succ, ← Nat.div_div_eq_div_mul]
  omega

/-- Turned to the left, then as far to the right, and the other way. -/
theorem rol_ror (m x n : Nat) (hx : x < 2 ^ m) (hn : n < m) :
    let r := fun (y k : Nat) => (y * 2 ^ k ||| y / 2 ^ (m - k)) % 2 ^ m
    r (r x n) ((m - n) % m) = x ∧ r (r x ((m - n) % m)) n = x := by
  intro r
  have hm : 0 < m := by omega
  have hk : (m - n) % m < m := Nat.mod_lt _ hm
  have hr : ∀ y k, r y k < 2 ^ m := fun y k => Nat.mod_lt _ (Nat.two_pow_pos m)
  have key : ∀ i, i < m → ((i + (m - (m - n) % m)) % m + (m - n)) % m = i := by
    intro i hi
    by_cases h0 : n = 0
    · subst h0; simp; exact Nat.mod_eq_of_lt hi
    · rw [Nat.mod_eq_of_lt (show m - n < m by omega)]
      rw [Nat.mod_add_mod, show i + (m - (m - n)) + (m - n) = i + m from by omega, Nat.add_mod_right]
      exact Nat.mod_eq_of_lt hi
  have key2 : ∀ i, i < m → ((i + (m - n)) % m + (m - (m - n) % m)) % m = i := by
    intro i hi
    by_cases h0 : n = 0
    · subst h0; simp; exact Nat.mod_eq_of_lt hi
    · rw [Nat.mod_eq_of_lt (show m - n < m by omega)]
      rw [Nat.mod_add_mod, show i + (m - n) + (m - (m - n)) = i + m from by omega, Nat.add_mod_right]
      exact Nat.mod_eq_of_lt hi
  constructor
  · refine Nat.eq_of_testBit_eq fun i => ?_
    by_cases hi : i < m
    · rw [rolbit m (r x n) _ i (hr _ _) hk hi, rolbit m x n _ hx hn (Nat.mod_lt _ hm), key i hi]
    · rw [Nat.testBit_lt_two_pow (Nat.lt_of_lt_of_le (hr _ _) (Nat.pow_le_pow_right (by decide) (by omega))), Nat.testBit_lt_two_pow (Nat.lt_of_lt_of_le hx (Nat.pow_le_pow_right (by decide) (by omega)))]
  · refine Nat.eq_of_testBit_eq fun i => ?_
    by_cases hi : i < m
    · rw [rolbit m _ n i (hr _ _) hn hi, rolbit m x _ _ hx hk (Nat.mod_lt _ hm), key2 i hi]
    · rw [Nat.testBit_lt_two_pow (Nat.lt_of_lt_of_le (hr _ _) (Nat.pow_le_pow_right (by decide) (by omega))), Nat.testBit_lt_two_pow (Nat.lt_of_lt_of_le hx (Nat.pow_le_pow_right (by decide) (by omega)))]

end Go.Proofs.Ytklnafmoihkbhaa.Bn
