import Derived.Test.YtklnafmoihkbhaaBu
namespace Go.Proofs.Ytklnafmoihkbhaa.C
open Go.RowKit Go.Proofs.YtklnafmoihkbhaaW.PrintWords Go.Proofs.YtklnafmoihkbhaaW.PrintLast Go.Proofs.YtklnafmoihkbhaaW.PrintMore
open Bm
set_option linter.unusedVariables false
set_option linter.unusedSimpArgs false

/-- Where the word is parted. -/
theorem part_at {m : Nat} (h1 : 2 ≤ m) (h2 : m ≤ 64) (a : Int) : ∃ n : Nat, 1 ≤ n ∧ n < m ∧
    wrap64 (1 + (Int.tmod (wrap64 ((wrap64 ((Int.tmod a (wrap64 ((m : Int) - 1))) + (m : Int))) - 1)) (wrap64 ((m : Int) - 1)))) = (n : Int) := by
  have e1 : wrap64 ((m : Int) - 1) = (m : Int) - 1 := by rw [w64]; omega
  rw [e1]
  have b1 := Int.tmod_lt_of_pos a (show 0 < (m : Int) - 1 by omega)
  have b2 := Int.lt_tmod_of_pos a (show 0 < (m : Int) - 1 by omega)
  generalize Int.tmod a ((m : Int) - 1) = q at *
  have e2 : wrap64 (wrap64 (q + (m : Int)) - 1) = q + (m : Int) - 1 := by rw [w64, w64]; omega
  rw [e2]
  have b3 := Int.tmod_lt_of_pos (q + (m : Int) - 1) (show 0 < (m : Int) - 1 by omega)
  have b4 := Int.tmod_nonneg ((m : Int) - 1) (show 0 ≤ q + (m : Int) - 1 by omega)
  generalize Int.tmod (q + (m : Int) - 1) ((m : Int) - 1) = s at *
  refine ⟨(1 + s).toNat, by omega, by omega, ?_⟩
  rw [w64]; omega

/-- What is widened with its sign. -/
theorem sext_back {m t x : Nat} (h1 : 1 ≤ m) (ht : m ≤ t) (h2 : t ≤ 64) (hx : x < 2 ^ m) :
    trn (t : Int) (sgn (m : Int) x % 18446744073709551616).toNat < 2 ^ 64 ∧ sgn (t : Int) (trn (t : Int) (sgn (m : Int) x % 18446744073709551616).toNat) = sgn (m : Int) x ∧ trn (t : Int) (sgn (m : Int) x % 18446744073709551616).toNat % 2 ^ m = x := by
  obtain ⟨k, rfl⟩ : ∃ k, m = k + 1 := ⟨m - 1, by omega⟩
  obtain ⟨j, rfl⟩ : ∃ j, t = j + 1 := ⟨t - 1, by omega⟩
  have hsk : 2 ^ (k + 1) = 2 * 2 ^ k := by rw [Nat.pow_succ]; omega
  have hsj : 2 ^ (j + 1) = 2 * 2 ^ j := by rw [Nat.pow_succ]; omega
  have hkj : 2 ^ k ≤ 2 ^ j := Nat.pow_le_pow_right (by decide) (by omega)
  have hj := pow_lt64 (m := j) (by omega)
  have hxl : x < 2 ^ 64 := lt64 (by omega) hx
  -- the word of 2^t
  obtain ⟨z, hz, hzl⟩ : ∃ z : Nat, (sgn ((k + 1 : Nat) : Int) x % 18446744073709551616).toNat % 2 ^ (j + 1) = z ∧ z = if 2 ^ k ≤ x then x + 2 ^ (j + 1) - 2 ^ (k + 1) else x := by
    refine ⟨_, rfl, ?_⟩
    rw [sgn_in (by omega) (by omega) hx, show k + 1 - 1 = k from rfl]
    by_cases g : 2 ^ k ≤ x
    · rw [if_pos g, if_pos g]
      have e : (((x : Int) - ((2 ^ (k + 1) : Nat) : Int)) % 18446744073709551616).toNat = (x + 2 ^ (j + 1) - 2 ^ (k + 1)) + 2 ^ (j + 1) * (2 ^ (63 - j) - 1) := by
        have h3 : 2 ^ (j + 1) * 2 ^ (63 - j) = 18446744073709551616 := by rw [← Nat.pow_add, show j + 1 + (63 - j) = 64 from by omega]
        have h4 : 2 ^ (j + 1) * (2 ^ (63 - j) - 1) + 2 ^ (j + 1) = 2 ^ (j + 1) * 2 ^ (63 - j) := by
          have := Nat.two_pow_pos (63 - j)
          rw [← Nat.mul_succ]; congr 1; omega
        rw [h3] at h4
        generalize 2 ^ (j + 1) * (2 ^ (63 - j) - 1) = Q at *
        rw [hsj] at h4 ⊢
        rw [hsk] at hx ⊢
        generalize 2 ^ k = P at *
        generalize 2 ^ j = R at *
        omega
      rw [e, Nat.add_mul_mod_self_left]
      apply Nat.mod_eq_of_lt
      omega
    · rw [if_neg g, if_neg g]
      have e : ((x : Int) % 18446744073709551616).toNat = x := by rw [p64] at hxl; omega
      rw [e]
      apply Nat.mod_eq_of_lt
      omega
  have hl : (sgn ((k + 1 : Nat) : Int) x % 18446744073709551616).toNat < 2 ^ 64 := by rw [p64]; omega
  rw [trn_in rfl (by omega) h2 hl, hz]
  have zl : z < 2 ^ (j + 1) := by rw [hzl]; split <;> omega
  refine ⟨lt64 h2 zl, ?_, ?_⟩
  · rw [sgn_in (by omega) h2 zl, sgn_in (by omega) (by omega) hx, show k + 1 - 1 = k from rfl, show j + 1 - 1 = j from rfl, hzl]
    by_cases g : 2 ^ k ≤ x
    · simp only [if_pos g]
      rw [if_pos (by omega)]
      omega
    · simp only [if_neg g]
      rw [if_neg (by omega)]
  · rw [hzl]
    by_cases g : 2 ^ k ≤ x
    · rw [if_pos g]
      have h5 : 2 ^ (j + 1) = 2 ^ (k + 1) * 2 ^ (j - k) := by rw [← Nat.pow_add]; congr 1; omega
      have h6 : 2 ^ (k + 1) * (2 ^ (j - k) - 1) + 2 ^ (k + 1) = 2 ^ (k + 1) * 2 ^ (j - k) := by
        have := Nat.two_pow_pos (j - k)
        rw [← Nat.mul_succ]; congr 1; omega
      rw [show x + 2 ^ (j + 1) - 2 ^ (k + 1) = x + 2 ^ (k + 1) * (2 ^ (j - k) - 1) from by omega, Nat.add_mul_mod_self_left, Nat.mod_eq_of_lt hx]
    · rw [if_neg g, Nat.mod_eq_of_lt hx]

theorem joined_tail (k : Nat) {m x : Nat} {t : Int} (h1 : 1 ≤ m) (h2 : m ≤ 64) (hx : x < 2 ^ m) : cadencelaw01_BitsJoined.j1 (k + 4) (m : Int) (x : Int) t false = some true := by
  have nf : ¬ (false = true) := by decide
  have hx64 := lt64 h2 hx
  rw [cadencelaw01_BitsJoined.j1, if_neg nf]
  have out : t < (m : Int) ∨ t > 64 → cadencelaw01_BitsJoined.j2 (k + 3) (m : Int) (x : Int) t true = some true := by
    intro h
    rw [cadencelaw01_BitsJoined.j2, if_pos rfl, (Ext_eq k 33 (m : Int) t hx64).1]
    unfold extn
    rw [if_neg (by decide), if_pos (by omega)]
    rfl
  by_cases g : t < (m : Int)
  · rw [if_pos g]; exact out (.inl g)
  rw [if_neg g]
  by_cases g2 : t > 64
  · rw [decide_eq_true g2]; exact out (.inr g2)
  obtain ⟨t, rfl⟩ := Int.eq_ofNat_of_zero_le (show 0 ≤ t by omega)
  obtain ⟨l1, l2, l3⟩ := sext_back (t := t) h1 (by omega) (by omega) hx
  have e1 : extn 33 (m : Int) x (t : Int) = ((trn (t : Int) (sgn (m : Int) x % 18446744073709551616).toNat : Int), 0) := by
    unfold extn; rw [if_neg (by decide), if_neg (by omega), if_neg (by decide)]
  have e2 : extn 32 (m : Int) x (t : Int) = ((x : Int), 0) := by
    unfold extn; rw [if_neg (by decide), if_neg (by omega), if_pos rfl, trn_in rfl h1 h2 hx64, Nat.mod_eq_of_lt hx]
  rw [decide_eq_false g2, cadencelaw01_BitsJoined.j2, if_neg nf, (Ext_eq k 33 (m : Int) t hx64).1, (Ext_eq k 32 (m : Int) t hx64).1, e1, e2]
  simp only [Option.bind_some, if_true]
  rw [Signed_eq _ l1, Signed_eq _ hx64]
  simp only [Option.bind_some]
  rw [l2, if_pos rfl, Trim_eq _ l1, Option.bind_some, trn_in rfl h1 h2 l1, l3]
  simp

theorem BitsJoined : cadencelaw01_BitsJoined.Pure := by
  intro w a at_ t hw h2 hat ht
  have nf : ¬ (false = true) := by decide
  obtain ⟨x, rfl, hx⟩ := wf_u64 h2
  refine ⟨10, ?_⟩
  unfold cadencelaw01_BitsJoined.f
  rw [alive10, Option.bind_some, if_pos rfl]
  by_cases g : w < 2
  · rw [if_pos g, cadencelaw01_BitsJoined.j0, if_pos rfl]
  rw [if_neg g]
  by_cases g2 : w > 64
  · rw [decide_eq_true g2, cadencelaw01_BitsJoined.j0, if_pos rfl]
  obtain ⟨m, rfl⟩ := Int.eq_ofNat_of_zero_le (show 0 ≤ w by omega)
  obtain ⟨n, n1, n2, en⟩ := part_at (m := m) (by omega) (by omega) at_
  have h1 : 1 ≤ m := by omega
  have h2 : m ≤ 64 := by omega
  have en2 : wrap64 ((m : Int) - (n : Int)) = ((m - n : Nat) : Int) := by rw [w64]; omega
  have e0 : ¬ wrap64 ((m : Int) - 1) = 0 := by rw [w64]; omega
  have lx := Nat.mod_lt x (Nat.two_pow_pos m)
  rw [decide_eq_false g2, cadencelaw01_BitsJoined.j0, if_neg nf, if_neg e0, en, en2, Trim_eq _ hx, Option.bind_some, trn_in rfl h1 h2 hx]
  generalize x % 2 ^ m = x at *
  have lx64 := lt64 h2 lx
  have bd : ∀ k : Nat, k ≤ 64 → -9223372036854775808 ≤ (k : Int) ∧ (k : Int) ≤ 9223372036854775807 := fun k hk => by omega
  have s1 : slicen (m : Int) x 0 (n : Int) = (((x % 2 ^ n : Nat) : Int), 0) := by
    unfold slicen
    rw [if_pos ⟨⟨by omega, by omega⟩, by omega, by omega, by omega⟩, Int.toNat_natCast, Int.toNat_natCast, Nat.mod_eq_of_lt lx]
    simp
  have s2 : slicen (m : Int) x (n : Int) ((m - n : Nat) : Int) = (((x / 2 ^ n : Nat) : Int), 0) := by
    unfold slicen
    have hl : x / 2 ^ n < 2 ^ (m - n) := by
      rw [Nat.div_lt_iff_lt_mul (Nat.two_pow_pos n), ← Nat.pow_add, show m - n + n = m from by omega]; exact lx
    rw [if_pos ⟨⟨by omega, by omega⟩, by omega, by omega, by omega⟩, Int.toNat_natCast, Int.toNat_natCast, Int.toNat_natCast, Nat.mod_eq_of_lt lx, Nat.mod_eq_of_lt hl]
  rw [(Slice_eq 8 (bd m h2) (by decide) (bd n (by omega)) lx64).1, (Slice_eq 8 (bd m h2) (bd n (by omega)) (bd (m - n) (by omega)) lx64).1, s1, s2]
  simp only [Option.bind_some]
  have l1 : x % 2 ^ n < 2 ^ 64 := lt64 (by omega) (Nat.mod_lt x (Nat.two_pow_pos n))
  have l2 : x / 2 ^ n < 2 ^ 64 := Nat.lt_of_le_of_lt (Nat.div_le_self _ _) lx64
  have c1 : catn ((m - n : Nat) : Int) (x / 2 ^ n) (n : Int) (x % 2 ^ n) = ((x : Int), 0) := by
    unfold catn
    have hl : x / 2 ^ n < 2 ^ (m - n) := by
      rw [Nat.div_lt_iff_lt_mul (Nat.two_pow_pos n), ← Nat.pow_add, show m - n + n = m from by omega]; exact lx
    rw [if_pos ⟨⟨by omega, by omega⟩, ⟨by omega, by omega⟩, by omega⟩, Int.toNat_natCast, Int.toNat_natCast, Nat.mod_eq_of_lt hl, Nat.mod_mod, Nat.mul_comm, Nat.div_add_mod]
  rw [(Cat_eq 8 (bd (m - n) (by omega)) (bd n (by omega)) l2 l1).1, c1]
  simp only [Option.bind_some, if_true]
  rw [show (((x : Int)) != (x : Int)) = false from by simp]
  exact joined_tail 5 h1 h2 lx
end Go.Proofs.Ytklnafmoihkbhaa.C
