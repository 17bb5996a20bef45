import Derived.Test.YtklnafmoihkbhaaBt
import Derived.Test.YtklnafmoihkbhaaCe
namespace Go.Proofs.Ytklnafmoihkbhaa.C
open Go.RowKit Go.Proofs.YtklnafmoihkbhaaW.PrintWords Go.Proofs.YtklnafmoihkbhaaW.PrintLast Go.Proofs.YtklnafmoihkbhaaW.PrintMore
open Bm
set_option linter.unusedVariables false
set_option linter.unusedSimpArgs false

theorem width_of (a : Int) : ∃ m : Nat, 1 ≤ m ∧ m ≤ 64 ∧ pw m = true ∧ (∀ n, n % 2 ^ m % m = n % m) ∧ 0 ≤ Int.tmod (IntKind.u64.wrap a) 7 ∧ shl .i64 1 (Int.tmod (IntKind.u64.wrap a) 7) = (m : Int) := by
  have h0 : 0 ≤ IntKind.u64.wrap a := by rw [u64w]; omega
  have b1 := Int.tmod_lt_of_pos (IntKind.u64.wrap a) (show (0 : Int) < 7 by decide)
  have b2 := Int.tmod_nonneg 7 h0
  generalize Int.tmod (IntKind.u64.wrap a) 7 = j at *
  have key : ∀ i : Fin 7, pw (2 ^ i.val) = true ∧ shl .i64 1 (i.val : Int) = ((2 ^ i.val : Nat) : Int) := by decide +kernel
  obtain ⟨i, rfl⟩ := Int.eq_ofNat_of_zero_le b2
  obtain ⟨k1, k2⟩ := key ⟨i, by omega⟩
  simp only at k1 k2
  refine ⟨2 ^ i, Nat.two_pow_pos i, ?_, k1, ?_, b2, k2⟩
  · have : 2 ^ i ≤ 2 ^ 6 := Nat.pow_le_pow_right (by decide) (by omega)
    omega
  · intro n
    exact Nat.mod_mod_of_dvd _ (Nat.pow_dvd_pow 2 (Nat.le_of_lt Nat.lt_two_pow_self))

/-- A shift or a turn that must be. -/
theorem two_mov (k : Nat) {op : Int} {m x y : Nat} (h1 : 1 ≤ m) (h2 : m ≤ 64) (hp : pw m = true) (hm : ∀ n, n % 2 ^ m % m = n % m) (hx : x < 2 ^ m) (hy : y < 2 ^ 64) (o1 : 25 ≤ op) (o2 : op ≤ 29) :
    cadencelaw01_two.f (k + 2) op (m : Int) (x : Int) (y : Int) = some ((movn op m x (y % m) : Nat) : Int) := by
  rw [two_ok k h1 h2 (lt64 h2 hx) hy (by omega) o2 (fun _ => hp), if_pos o1, Nat.mod_eq_of_lt hx, hm]

theorem movn_lt {op : Int} {m x n : Nat} (h1 : 1 ≤ m) (hx : x < 2 ^ m) : movn op m x n < 2 ^ m := by
  have hpos := Nat.two_pow_pos m
  unfold movn
  split
  · exact Nat.mod_lt _ hpos
  split
  · exact Nat.lt_of_le_of_lt (Nat.div_le_self _ _) hx
  split
  · split
    · rw [Nat.div_lt_iff_lt_mul (Nat.two_pow_pos n), Nat.mul_sub, Nat.mul_one]
      have : 2 ^ m ≤ 2 ^ m * 2 ^ n := Nat.le_mul_of_pos_right _ (Nat.two_pow_pos n)
      omega
    · exact Nat.lt_of_le_of_lt (Nat.div_le_self _ _) hx
  split
  · exact Nat.mod_lt _ hpos
  · exact Nat.mod_lt _ hpos

theorem BitsTurns : cadencelaw01_BitsTurns.Pure := by
  intro a b c ha h2 h3
  have nf : ¬ (false = true) := by decide
  obtain ⟨x, rfl, hx⟩ := wf_u64 h2
  obtain ⟨y, rfl, hy⟩ := wf_u64 h3
  obtain ⟨m, h1, h2, hp, hm, e0, ew⟩ := width_of a
  refine ⟨10, ?_⟩
  unfold cadencelaw01_BitsTurns.f
  rw [alive10, Option.bind_some, if_pos rfl, if_pos e0, ew, Trim_eq _ hx, Option.bind_some, trn_in rfl h1 h2 hx]
  have lx := Nat.mod_lt x (Nat.two_pow_pos m)
  generalize x % 2 ^ m = x at *
  have hk : y % m < m := Nat.mod_lt _ (by omega)
  obtain ⟨t1, t2⟩ := Bn.rol_ror m x (y % m) lx hk
  have f28 : ∀ z, movn 28 m z (y % m) = (z * 2 ^ (y % m) ||| z / 2 ^ (m - y % m)) % 2 ^ m := fun z => by unfold movn; simp
  have f29 : ∀ z, movn 29 m z (y % m) = (z * 2 ^ ((m - y % m) % m) ||| z / 2 ^ (m - (m - y % m) % m)) % 2 ^ m := fun z => by unfold movn; simp
  have r1 : movn 29 m (movn 28 m x (y % m)) (y % m) = x := by rw [f29, f28]; exact t1
  have r2 : movn 28 m (movn 29 m x (y % m)) (y % m) = x := by rw [f28, f29]; exact t2
  rw [two_mov 8 h1 h2 hp hm lx hy (by decide) (by decide), Option.bind_some, two_mov 8 h1 h2 hp hm (movn_lt h1 lx) hy (by decide) (by decide), Option.bind_some, r1, if_pos rfl]
  rw [two_mov 8 h1 h2 hp hm lx hy (by decide) (by decide), Option.bind_some, two_mov 8 h1 h2 hp hm (movn_lt h1 lx) hy (by decide) (by decide), Option.bind_some, r2]
  rw [show (((x : Int)) != (x : Int)) = false from by simp]
  have ewm : IntKind.u64.wrap (m : Int) = (m : Int) := wrapin (by omega) (by omega)
  have ek : Int.tmod (y : Int) (m : Int) = ((y % m : Nat) : Int) := tmod_nat y m
  rw [cadencelaw01_BitsTurns.j0, if_neg nf, ewm, if_neg (by omega), two_mov 7 h1 h2 hp hm lx hy (by decide) (by decide), Option.bind_some, ek, if_pos (by omega)]
  have hpk : 2 ^ (y % m) < 2 ^ m := Nat.pow_lt_pow_right (by decide) hk
  have es : shl .u64 1 ((y % m : Nat) : Int) = ((2 ^ (y % m) : Nat) : Int) := by
    rw [show (1 : Int) = ((1 : Nat) : Int) from rfl, shl_nat 1 rfl (by omega), Nat.one_mul, Nat.mod_eq_of_lt (lt64 h2 hpk)]
  rw [es, two_op 7 h1 h2 lx hpk (by decide) (by decide), Option.bind_some]
  have e25 : movn 25 m x (y % m) = opn 22 m x (2 ^ (y % m)) := by unfold movn opn; simp
  rw [e25, if_pos rfl, two_mov 7 h1 h2 hp hm lx hy (by decide) (by decide), Option.bind_some, two_op 7 h1 h2 lx hpk (by decide) (by decide), Option.bind_some]
  have e26 : movn 26 m x (y % m) = opn 23 m x (2 ^ (y % m)) := by
    have := Nat.two_pow_pos (y % m)
    unfold movn opn; simp
  rw [e26, if_pos rfl, cadencelaw01_BitsTurns.j1, if_neg nf, ewm]
  have esub : IntKind.u64.wrap ((m : Int) - ((y % m : Nat) : Int)) = ((m - y % m : Nat) : Int) := by rw [u64w]; omega
  have lk : y % m < 2 ^ 64 := Nat.lt_of_lt_of_le hk (by rw [p64]; omega)
  have lk2 : m - y % m < 2 ^ 64 := Nat.lt_of_le_of_lt (Nat.sub_le _ _) (by rw [p64]; omega)
  rw [two_mov 6 h1 h2 hp hm lx lk (by decide) (by decide), Option.bind_some, esub, two_mov 6 h1 h2 hp hm lx lk2 (by decide) (by decide), Option.bind_some]
  by_cases z : y % m = 0
  · rw [if_pos (by omega)]
  · have en : (m - y % m) % m = m - y % m := Nat.mod_eq_of_lt (by omega)
    rw [if_neg (by omega), two_op 6 h1 h2 (movn_lt h1 lx) (movn_lt h1 lx) (by decide) (by decide), Option.bind_some, two_mov 6 h1 h2 hp hm lx hy (by decide) (by decide), Option.bind_some]
    have ee : opn 18 m (movn 25 m x (y % m % m)) (movn 26 m x ((m - y % m) % m)) = movn 28 m x (y % m) := by
      rw [f28, en, Nat.mod_mod]
      have l2 : x / 2 ^ (m - y % m) < 2 ^ m := Nat.lt_of_le_of_lt (Nat.div_le_self _ _) lx
      unfold opn movn
      simp only [show ¬ (18 : Int) = 17 by decide, show ¬ (26 : Int) = 25 by decide, if_false, if_true]
      rw [Nat.or_mod_two_pow, Nat.mod_eq_of_lt l2]
    rw [ee]
    simp
end Go.Proofs.Ytklnafmoihkbhaa.C
