import Derived.Test.YtklnafmoihkbhaaBq
import Derived.Test.YtklnafmoihkbhaaCb
namespace Go.Proofs.Ytklnafmoihkbhaa.C
open Go.RowKit Go.Proofs.YtklnafmoihkbhaaW.PrintWords Go.Proofs.YtklnafmoihkbhaaW.PrintLast Go.Proofs.YtklnafmoihkbhaaW.PrintMore
open Bm

theorem rRight_eq (w : Int) : cadenceref01_Right.f w = some (decide (1 ≤ w ∧ w ≤ 64)) := Right_eq w
theorem rTrim_eq (w : Int) {x : Nat} (hx : x < 2 ^ 64) : cadenceref01_Trim.f w (x : Int) = some (trn w x : Int) := by
  unfold cadenceref01_Trim.f
  by_cases h1 : w < 1
  · rw [if_pos h1]; unfold trn; rw [if_pos h1]; rfl
  · rw [if_neg h1]
    by_cases h2 : w ≥ 64
    · rw [if_pos h2]; unfold trn; rw [if_neg h1, if_pos h2]
    · obtain ⟨a, _, b, c⟩ := mask_is hx h1 h2
      rw [if_neg h2, if_pos a, if_neg b, c]
theorem rbit_eq (x : Nat) {i : Int} {m : Nat} (hi : i = m) (hm : m ≤ 64) : cadenceref01_bit.f (x : Int) i = some ((x / 2 ^ m % 2 : Nat) : Int) := by
  obtain ⟨a, b⟩ := bit_nat x hi hm
  unfold cadenceref01_bit.f
  rw [if_pos a, b]
theorem wrap_sub (a b : Int) : wrap64 (a - wrap64 b) = wrap64 (a - b) := by rw [w64, w64, w64]; omega
theorem rSigned_eq (w : Int) {x : Nat} (hx : x < 2 ^ 64) : cadenceref01_Signed.f w (x : Int) = some (sgn w x) := by
  unfold cadenceref01_Signed.f
  rw [rRight_eq]; simp only [Option.bind_some]
  by_cases h : 1 ≤ w ∧ w ≤ 64
  · rw [if_pos (decide_eq_true h), rTrim_eq w hx, Option.bind_some]
    obtain ⟨m, rfl⟩ := Int.eq_ofNat_of_zero_le (show 0 ≤ w by omega)
    obtain ⟨m, rfl⟩ : ∃ k, m = k + 1 := ⟨m - 1, by omega⟩
    have et : trn ((m + 1 : Nat) : Int) x = x % 2 ^ (m + 1) := trn_in rfl (by omega) (by omega) hx
    have lt : x % 2 ^ (m + 1) < 2 ^ (m + 1) := Nat.mod_lt _ (Nat.two_pow_pos _)
    unfold sgn
    rw [if_pos h, et, show (((m + 1 : Nat) : Int) - 1).toNat = m from by omega, show ((m + 1 : Nat) : Int).toNat = m + 1 from by omega]
    generalize x % 2 ^ (m + 1) = t at *
    rw [rbit_eq t (m := m) (by rw [w64]; omega) (by omega), Option.bind_some, high_bit lt]
    have hp := pow_le64 (m := m + 1) (by omega)
    have hp2 := pow_lt64 (m := m) (by omega)
    have hs : 2 ^ (m + 1) = 2 * 2 ^ m := by rw [Nat.pow_succ]; omega
    by_cases g : 2 ^ m ≤ t
    · rw [if_pos g, if_pos g, if_pos (show ((1 : Nat) : Int) = 1 from rfl)]
      by_cases l : ((m + 1 : Nat) : Int) < 64
      · rw [if_pos l, wrapin (by omega) (by omega), if_pos (by omega)]
        have e : shl .i64 1 ((m + 1 : Nat) : Int) = wrap64 ((2 ^ (m + 1) : Nat) : Int) := by
          unfold shl
          rw [show min (((m + 1 : Nat) : Int).toNat) IntKind.i64.bits = m + 1 from by simp [IntKind.bits]; omega, i64w, Int.one_mul, Int.natCast_pow]; rfl
        have hp3 := pow_lt64 (m := m + 1) (by omega)
        have et2 : wrap64 (t : Int) = (t : Int) := by rw [w64]; generalize 2 ^ (m + 1) = P at lt hp3; omega
        rw [e, et2, wrap_sub, w64]
        refine congrArg some ?_
        rw [hs] at lt hp3 ⊢
        generalize 2 ^ m = P at lt hp3 g ⊢
        omega
      · have : m = 63 := by omega
        subst this
        rw [if_neg l, w64]
        have e64 : 2 ^ (63 + 1) = 18446744073709551616 := by decide
        rw [e64] at *
        rw [p63] at g
        refine congrArg some ?_
        omega
    · rw [if_neg g, if_neg g, if_neg (by decide), w64]
      refine congrArg some ?_
      generalize 2 ^ m = P at *
      omega
  · rw [if_neg (by simpa using h)]; unfold sgn; rw [if_neg h]

theorem rShifts_all : ∀ m : Fin 65, 1 ≤ m.val → cadenceref01_Shifts.f 9 (m.val : Int) = some (pw m.val) := by decide +kernel
theorem rShifts_eq {m : Nat} (h1 : 1 ≤ m) (h2 : m ≤ 64) {k : Nat} (hk : 9 ≤ k) : cadenceref01_Shifts.f k (m : Int) = some (pw m) :=
  at_rounds (g := fun k => cadenceref01_Shifts.f k (m : Int)) (fun k => cadenceref01_Shifts.mono _ k) hk (rShifts_all ⟨m, by omega⟩ h1)

/-- The loop that lays a word bit by bit, the highest first: it comes to the word whose bits they are. -/
theorem moved_loop (op : Int) {m n x N : Nat} (h2 : m ≤ 64) (hN : N < 2 ^ m)
    (step : ∀ (k i v : Nat), i < m → 2 * v + 1 < 2 ^ 64 → cadenceref01_moved.l0 (k + 1) op (m : Int) (x : Int) (n : Int) (v : Int) (i : Int) = cadenceref01_moved.l0 k op (m : Int) (x : Int) (n : Int) ((2 * v + N / 2 ^ i % 2 : Nat) : Int) ((i : Int) - 1)) :
    ∀ j k, j ≤ m → j < k → cadenceref01_moved.l0 k op (m : Int) (x : Int) (n : Int) ((N / 2 ^ j : Nat) : Int) ((j : Int) - 1) = some (N : Int) := by
  intro j
  induction j with
  | zero =>
    intro k _ hk
    obtain ⟨k, rfl⟩ : ∃ a, k = a + 1 := ⟨k - 1, by omega⟩
    rw [cadenceref01_moved.l0, if_neg (by omega)]; simp
  | succ j ih =>
    intro k hj hk
    obtain ⟨k, rfl⟩ : ∃ a, k = a + 1 := ⟨k - 1, by omega⟩
    have hv : 2 * (N / 2 ^ (j + 1)) + 1 < 2 ^ 64 := by
      have h := Bn.half N j
      have : N / 2 ^ j < 2 ^ 64 := Nat.lt_of_le_of_lt (Nat.div_le_self _ _) (lt64 h2 hN)
      have h3 := Nat.mod_lt (N / 2 ^ j) (show 0 < 2 by decide)
      have h4 : 2 * (N / 2 ^ (j + 1)) < 2 ^ 64 := by omega
      rw [p64] at *
      omega
    rw [show ((j + 1 : Nat) : Int) - 1 = (j : Int) from by omega, step k j _ (by omega) hv, Bn.half]
    exact ih k (by omega) (by omega)

theorem dbl {v b : Nat} (hv : 2 * v + 1 < 2 ^ 64) (hb : b ≤ 1) : IntKind.u64.wrap (IntKind.u64.wrap (2 * (v : Int)) + (b : Int)) = ((2 * v + b : Nat) : Int) := by
  rw [p64] at hv; rw [u64w, u64w]; omega
theorem dbl0 {v : Nat} (hv : 2 * v + 1 < 2 ^ 64) : IntKind.u64.wrap (2 * (v : Int)) = ((2 * v : Nat) : Int) := by
  rw [p64] at hv; rw [u64w]; omega
theorem le1 (z : Nat) : z % 2 ≤ 1 := by omega
theorem bit_true {N i : Nat} {b : Bool} (h : N.testBit i = b) : N / 2 ^ i % 2 = b.toNat := by rw [← Bn.bit_div, h]

theorem rmoved_eq (op : Int) {m x n : Nat} (h1 : 1 ≤ m) (h2 : m ≤ 64) (hx : x < 2 ^ m) (hn : n < m) (o1 : 25 ≤ op) (o2 : op ≤ 29) {k : Nat} (hk : 64 < k) :
    cadenceref01_moved.f k op (m : Int) (x : Int) (n : Int) = some (movn op m x n : Int) := by
  have last : ∀ N : Nat, N < 2 ^ m → (∀ (k i v : Nat), i < m → 2 * v + 1 < 2 ^ 64 → cadenceref01_moved.l0 (k + 1) op (m : Int) (x : Int) (n : Int) (v : Int) (i : Int) = cadenceref01_moved.l0 k op (m : Int) (x : Int) (n : Int) ((2 * v + N / 2 ^ i % 2 : Nat) : Int) ((i : Int) - 1)) → cadenceref01_moved.f k op (m : Int) (x : Int) (n : Int) = some (N : Int) := by
    intro N hN step
    have h := moved_loop op h2 hN step m k (Nat.le_refl _) (by omega)
    rw [Nat.div_eq_of_lt hN] at h
    unfold cadenceref01_moved.f
    rw [show wrap64 ((m : Int) - 1) = (m : Int) - 1 from by rw [w64]; omega]
    exact h
  have wm : ∀ i : Nat, i < m → wrap64 ((i : Int) - 1) = (i : Int) - 1 := fun i hi => by rw [w64]; omega
  have hpos := Nat.two_pow_pos m
  unfold movn
  by_cases c : op = 25
  · rw [if_pos c]
    refine last _ (Nat.mod_lt _ hpos) fun k i v hi hv => ?_
    rw [cadenceref01_moved.l0, if_pos (by omega), if_pos c, bit_true (Bn.shlbit m x n i hi)]
    have e : wrap64 ((i : Int) - (n : Int)) = (i : Int) - (n : Int) := by rw [w64]; omega
    by_cases g : n ≤ i
    · rw [if_pos (by rw [e]; omega), rbit_eq x (m := i - n) (by rw [e]; omega) (by omega), Option.bind_some, dbl hv (le1 _), wm i hi, ← Bn.bit_div]
      simp [g]
    · rw [if_neg (by rw [e]; omega), dbl0 hv, wm i hi]
      simp [g]
  rw [if_neg c]
  by_cases c2 : op = 26
  · rw [if_pos c2]
    refine last _ (Nat.lt_of_le_of_lt (Nat.div_le_self _ _) hx) fun k i v hi hv => ?_
    rw [cadenceref01_moved.l0, if_pos (by omega), if_neg c, if_pos c2, bit_true (Bn.shrbit m x n i hx)]
    have e : wrap64 ((i : Int) + (n : Int)) = ((i + n : Nat) : Int) := by rw [w64]; omega
    by_cases g : i + n < m
    · rw [if_neg (by rw [e]; omega), if_pos (by rw [e]; omega), rbit_eq x e (by omega), Option.bind_some, dbl hv (le1 _), wm i hi, ← Bn.bit_div]
      simp [g]
    · rw [if_pos (by rw [e]; omega), if_neg (by decide), dbl0 hv, wm i hi]
      simp [g]
  rw [if_neg c2]
  by_cases c3 : op = 27
  · rw [if_pos c3]
    have hN : (if 2 ^ (m - 1) ≤ x then (x + 2 ^ m * (2 ^ n - 1)) / 2 ^ n else x / 2 ^ n) < 2 ^ m := by
      split
      · rw [Nat.div_lt_iff_lt_mul (Nat.two_pow_pos n), Nat.mul_sub, Nat.mul_one]
        have : 2 ^ m ≤ 2 ^ m * 2 ^ n := Nat.le_mul_of_pos_right _ (Nat.two_pow_pos n)
        omega
      · exact Nat.lt_of_le_of_lt (Nat.div_le_self _ _) hx
    refine last _ hN fun k i v hi hv => ?_
    have hb : (if 2 ^ (m - 1) ≤ x then (x + 2 ^ m * (2 ^ n - 1)) / 2 ^ n else x / 2 ^ n).testBit i = x.testBit (min (i + n) (m - 1)) := by
      obtain ⟨q, rfl⟩ : ∃ q, m = q + 1 := ⟨m - 1, by omega⟩
      have hh := high_bit hx
      rw [← Bn.bit_div] at hh
      rw [show q + 1 - 1 = q from rfl] at *
      by_cases g : 2 ^ q ≤ x
      · rw [if_pos g] at hh ⊢
        exact Bn.sarbit (q + 1) x n i hx (by revert hh; show (x.testBit q).toNat = 1 → x.testBit q = true; cases x.testBit q <;> simp) (by omega) hi
      · rw [if_neg g] at hh ⊢
        rw [Bn.shrbit (q + 1) x n i hx]
        have hz : x.testBit q = false := by revert hh; cases x.testBit q <;> simp
        by_cases g2 : i + n < q + 1
        · rw [Nat.min_eq_left (by omega)]; simp [g2]
        · rw [Nat.min_eq_right (by omega), hz]; simp [g2]
    have e : mn (wrap64 ((i : Int) + (n : Int))) (wrap64 ((m : Int) - 1)) = ((min (i + n) (m - 1) : Nat) : Int) := by
      rw [show wrap64 ((i : Int) + (n : Int)) = ((i + n : Nat) : Int) from by rw [w64]; omega, show wrap64 ((m : Int) - 1) = ((m - 1 : Nat) : Int) from by rw [w64]; omega]
      unfold mn
      split <;> omega
    rw [cadenceref01_moved.l0, if_pos (by omega), if_neg c, if_neg c2, if_pos c3, bit_true hb, if_pos (by rw [e]; omega), rbit_eq x e (by omega), Option.bind_some, dbl hv (le1 _), wm i hi, ← Bn.bit_div]
  rw [if_neg c3]
  by_cases c4 : op = 29
  · rw [if_pos c4]
    refine last _ (Nat.mod_lt _ hpos) fun k i v hi hv => ?_
    have hk : (m - n) % m < m := Nat.mod_lt _ (by omega)
    have e : Int.tmod (wrap64 ((i : Int) + (n : Int))) (m : Int) = (((i + n) % m : Nat) : Int) := by
      rw [show wrap64 ((i : Int) + (n : Int)) = ((i + n : Nat) : Int) from by rw [w64]; omega, tmod_nat]
    have hl : (i + n) % m < m := Nat.mod_lt _ (by omega)
    have er : (i + (m - (m - n) % m)) % m = (i + n) % m := by
      by_cases h0 : n = 0
      · subst h0; simp
      · rw [Nat.mod_eq_of_lt (show m - n < m by omega), show m - (m - n) = n from by omega]
    rw [cadenceref01_moved.l0, if_pos (by omega), if_neg c, if_neg c2, if_neg c3, if_neg (show ¬ op = 28 by omega), if_pos c4, if_neg (by omega), if_pos (by rw [e]; omega), bit_true (Bn.rolbit m x _ i hx hk hi), er, rbit_eq x e (by omega), Option.bind_some, dbl hv (le1 _), wm i hi, ← Bn.bit_div]
  · rw [if_neg c4]
    refine last _ (Nat.mod_lt _ hpos) fun k i v hi hv => ?_
    have e : Int.tmod (wrap64 (wrap64 ((i : Int) - (n : Int)) + (m : Int))) (m : Int) = (((i + (m - n)) % m : Nat) : Int) := by
      rw [show wrap64 ((i : Int) - (n : Int)) = (i : Int) - (n : Int) from by rw [w64]; omega, show wrap64 ((i : Int) - (n : Int) + (m : Int)) = ((i + (m - n) : Nat) : Int) from by rw [w64]; omega, tmod_nat]
    have hl : (i + (m - n)) % m < m := Nat.mod_lt _ (by omega)
    rw [cadenceref01_moved.l0, if_pos (by omega), if_neg c, if_neg c2, if_neg c3, if_pos (show op = 28 by omega), if_neg (by omega), if_pos (by rw [e]; omega), bit_true (Bn.rolbit m x _ i hx hn hi), rbit_eq x e (by omega), Option.bind_some, dbl hv (le1 _), wm i hi, ← Bn.bit_div]

theorem rtrim_wrap {m z : Nat} (h1 : 1 ≤ m) (h2 : m ≤ 64) : cadenceref01_Trim.f (m : Int) (IntKind.u64.wrap (z : Int)) = some ((z % 2 ^ m : Nat) : Int) := by
  rw [u64_nat, rTrim_eq _ (Nat.mod_lt _ (Nat.two_pow_pos _)), trn_in rfl h1 h2 (Nat.mod_lt _ (Nat.two_pow_pos _)), mod_mod_pow _ h2]

theorem rj1_eq (k : Nat) (hk : 64 < k) {op : Int} {m x y : Nat} (h1 : 1 ≤ m) (h2 : m ≤ 64) (hx : x < 2 ^ 64) (hy : y < 2 ^ 64) (o1 : 17 ≤ op) (o2 : op ≤ 29) :
    cadenceref01_Bin.j1 (k + 1) op (m : Int) (x : Int) (y : Int) false = some (if 25 ≤ op then ((movn op m (x % 2 ^ m) (y % 2 ^ m % m) : Int), 0) else ((opn op m (x % 2 ^ m) (y % 2 ^ m) : Int), 0)) := by
  rw [cadenceref01_Bin.j1, if_neg (by simp), rTrim_eq _ hx, rTrim_eq _ hy, trn_in rfl h1 h2 hx, trn_in rfl h1 h2 hy]
  simp only [Option.bind_some]
  have lx : x % 2 ^ m < 2 ^ m := Nat.mod_lt _ (Nat.two_pow_pos m)
  have ly : y % 2 ^ m < 2 ^ m := Nat.mod_lt _ (Nat.two_pow_pos m)
  generalize x % 2 ^ m = a at *
  generalize y % 2 ^ m = b at *
  have hwm : IntKind.u64.wrap (m : Int) = (m : Int) := wrapin (by omega) (by omega)
  have la := lt64 h2 lx
  have lb := lt64 h2 ly
  by_cases s : 25 ≤ op
  · have lbm : b % m < m := Nat.mod_lt _ (by omega)
    have e : wrap64 (Int.tmod (b : Int) (m : Int)) = ((b % m : Nat) : Int) := by rw [tmod_nat, w64]; omega
    rw [if_neg (by omega), if_neg (by omega), if_neg (by omega), if_neg (by omega), if_neg (by omega), if_neg (by omega), if_neg (by omega), if_neg (by omega), if_pos s, hwm, if_neg (by omega), e, rmoved_eq op h1 h2 lx lbm s o2 hk, Option.bind_some]
  · rw [if_neg s]
    unfold opn
    by_cases c : op = 17
    · rw [if_pos c, if_pos c, and_nat la lb]
    rw [if_neg c, if_neg c]
    by_cases c : op = 18
    · rw [if_pos c, if_pos c, or_nat la lb]
    rw [if_neg c, if_neg c]
    by_cases c : op = 19
    · rw [if_pos c, if_pos c, xor_nat la lb]
    rw [if_neg c, if_neg c]
    by_cases c : op = 20
    · rw [if_pos c, if_pos c, show (a : Int) + (b : Int) = ((a + b : Nat) : Int) from by omega, rtrim_wrap h1 h2, Option.bind_some]
    rw [if_neg c, if_neg c]
    by_cases c : op = 21
    · obtain ⟨z, e1, e2⟩ := sub_wrap h2 lx ly
      rw [if_pos c, if_pos c, e1, rtrim_wrap h1 h2, Option.bind_some, e2]
    rw [if_neg c, if_neg c]
    by_cases c : op = 22
    · rw [if_pos c, if_pos c, ← Int.natCast_mul, rtrim_wrap h1 h2, Option.bind_some]
    rw [if_neg c, if_neg c]
    by_cases c : op = 23
    · rw [if_pos c, if_pos c]
      by_cases z : b = 0
      · have hall : (18446744073709551615 : Int) = ((2 ^ 64 - 1 : Nat) : Int) := by decide
        have hl : 2 ^ 64 - 1 < 2 ^ 64 := by decide
        rw [if_pos (by omega), if_pos z, hall, rTrim_eq _ hl, Option.bind_some, trn_in rfl h1 h2 hl, ones_mod h2]
      · have l : a / b < 2 ^ m := Nat.lt_of_le_of_lt (Nat.div_le_self _ _) lx
        rw [if_neg (by omega), if_neg z, tdiv_nat, u64_nat, Nat.mod_eq_of_lt (lt64 h2 l)]
    rw [if_neg c, if_neg c, if_pos (show op = 24 by omega)]
    by_cases z : b = 0
    · rw [if_pos (by omega), if_pos z]
    · rw [if_neg (by omega), if_neg z, tmod_nat]

theorem rBin_eq (k : Nat) (hk : 64 < k) (op w : Int) {x y : Nat} (hx : x < 2 ^ 64) (hy : y < 2 ^ 64) : cadenceref01_Bin.f (k + 2) op w (x : Int) (y : Int) = some (binn op w x y) := by
  unfold cadenceref01_Bin.f binn
  by_cases a1 : op < 17
  · rw [if_pos a1, cadenceref01_Bin.j0, if_pos rfl, if_pos (.inl a1)]
  rw [if_neg a1]
  by_cases a2 : op > 29
  · rw [decide_eq_true a2, cadenceref01_Bin.j0, if_pos rfl, if_pos (.inr a2)]
  rw [decide_eq_false a2, cadenceref01_Bin.j0, if_neg (by simp), rRight_eq, Option.bind_some, if_neg (show ¬ (op < 17 ∨ 29 < op) by omega)]
  by_cases hw : 1 ≤ w ∧ w ≤ 64
  · obtain ⟨m, rfl⟩ := Int.eq_ofNat_of_zero_le (show 0 ≤ w by omega)
    have h1 : 1 ≤ m := by omega
    have h2 : m ≤ 64 := by omega
    rw [if_pos (decide_eq_true hw), Int.toNat_natCast]
    by_cases s : 25 ≤ op
    · rw [if_pos s, rShifts_eq h1 h2 (show 9 ≤ k + 1 by omega), Option.bind_some]
      cases hp : pw m with
      | true =>
        rw [if_neg (by simp [hw])]
        exact rj1_eq k hk h1 h2 hx hy (by omega) (by omega)
      | false =>
        rw [if_pos (.inr ⟨s, rfl⟩)]
        simp [cadenceref01_Bin.j1]
    · rw [if_neg s, if_neg (by intro h; rcases h with h | h; exact h hw; exact s h.1)]
      exact rj1_eq k hk h1 h2 hx hy (by omega) (by omega)
  · rw [if_neg (by simpa using hw), if_pos (.inl hw), cadenceref01_Bin.j1, if_pos rfl]
end Go.Proofs.Ytklnafmoihkbhaa.C
