import Derived.Test.YtklnafmoihkbhaaBs
import Derived.Test.YtklnafmoihkbhaaCd
namespace Go.Proofs.Ytklnafmoihkbhaa.C
open Go.RowKit Go.Proofs.YtklnafmoihkbhaaW.PrintWords Go.Proofs.YtklnafmoihkbhaaW.PrintLast Go.Proofs.YtklnafmoihkbhaaW.PrintMore
open Bm

theorem Un_same (k : Nat) (op w : Int) {x : Nat} (hx : x < 2 ^ 64) : ∃ r, bits_Un.f (k + 1) op w (x : Int) = some r ∧ cadenceref01_Un.f (k + 1) op w (x : Int) = some r := by
  have hone : (18446744073709551615 : Int) = ((2 ^ 64 - 1 : Nat) : Int) := by decide
  have hxl : (2 ^ 64 - 1) ^^^ x < 2 ^ 64 := Nat.xor_lt_two_pow (by decide) hx
  obtain ⟨n, hn, hnl⟩ : ∃ n : Nat, IntKind.u64.wrap (-(x : Int)) = (n : Int) ∧ n < 2 ^ 64 := ⟨(-(x : Int) % 18446744073709551616).toNat, by rw [u64w]; omega, by rw [p64]; omega⟩
  have main : ∀ b, ∃ r, bits_Un.j0 (k + 1) op w (x : Int) b = some r ∧ cadenceref01_Un.j0 (k + 1) op w (x : Int) b = some r := by
    intro b
    rw [bits_Un.j0, cadenceref01_Un.j0, Right_eq, rRight_eq, Option.bind_some, Option.bind_some, hone, xor_nat (by decide) hx, hn, Trim_eq _ hxl, rTrim_eq _ hxl, Trim_eq _ hnl, rTrim_eq _ hnl]
    simp only [Option.bind_some]
    repeat' split
    all_goals exact ⟨_, rfl, rfl⟩
  unfold bits_Un.f cadenceref01_Un.f
  by_cases c : op = 15
  · rw [if_pos c, if_pos c]; exact main _
  · rw [if_neg c, if_neg c]; exact main _

theorem BitsOne : cadencelaw01_BitsOne.Pure := by
  intro op w a _ _ h2
  obtain ⟨x, rfl, hx⟩ := wf_u64 h2
  obtain ⟨r, e1, e2⟩ := Un_same 0 op w hx
  refine ⟨0 + 1, ?_⟩
  unfold cadencelaw01_BitsOne.f
  rw [e1, e2]
  simp

theorem xor_ones {m x : Nat} (h2 : m ≤ 64) (hx : x < 2 ^ m) : ((2 ^ 64 - 1) ^^^ x) % 2 ^ m = 2 ^ m - (x + 1) := by
  refine Nat.eq_of_testBit_eq fun i => ?_
  rw [Nat.testBit_mod_two_pow, Nat.testBit_xor, Nat.testBit_two_pow_sub_one, Nat.testBit_two_pow_sub_succ hx]
  by_cases h : i < m
  · have : i < 64 := by omega
    simp [h, this]
  · simp [h]

theorem Com_eq (k : Nat) {m x : Nat} (h1 : 1 ≤ m) (h2 : m ≤ 64) (hx : x < 2 ^ m) : bits_Un.f (k + 1) 15 (m : Int) (x : Int) = some (((2 ^ m - (x + 1) : Nat) : Int), 0) := by
  have hone : (18446744073709551615 : Int) = ((2 ^ 64 - 1 : Nat) : Int) := by decide
  have hx64 := lt64 h2 hx
  have hxl : (2 ^ 64 - 1) ^^^ x < 2 ^ 64 := Nat.xor_lt_two_pow (by decide) hx64
  unfold bits_Un.f
  rw [if_pos rfl, bits_Un.j0, if_neg (by decide), Right_eq, Option.bind_some, if_pos (decide_eq_true ⟨by omega, by omega⟩), if_pos rfl, hone, xor_nat (by decide) hx64, Trim_eq _ hxl, Option.bind_some, trn_in rfl h1 h2 hxl, xor_ones h2 hx]
theorem Neg_eq (k : Nat) {m x : Nat} (h1 : 1 ≤ m) (h2 : m ≤ 64) (hx : x < 2 ^ m) : bits_Un.f (k + 1) 16 (m : Int) (x : Int) = some ((((2 ^ m - x) % 2 ^ m : Nat) : Int), 0) := by
  obtain ⟨z, e1, e2⟩ := sub_wrap (x := 0) h2 (Nat.two_pow_pos m) hx
  rw [show ((0 : Nat) : Int) - (x : Int) = -(x : Int) from by omega] at e1
  unfold bits_Un.f
  rw [if_neg (by decide), bits_Un.j0, if_neg (by decide), Right_eq, Option.bind_some, if_pos (decide_eq_true ⟨by omega, by omega⟩), if_neg (by decide), e1, trim_wrap h1 h2, Option.bind_some, e2, Nat.zero_add]

/-- A binary operation that must be. -/
theorem two_ok (k : Nat) {op : Int} {m x y : Nat} (h1 : 1 ≤ m) (h2 : m ≤ 64) (hx : x < 2 ^ 64) (hy : y < 2 ^ 64) (o1 : 17 ≤ op) (o2 : op ≤ 29) (hs : 25 ≤ op → pw m = true) :
    cadencelaw01_two.f (k + 2) op (m : Int) (x : Int) (y : Int) = some (((if 25 ≤ op then movn op m (x % 2 ^ m) (y % 2 ^ m % m) else opn op m (x % 2 ^ m) (y % 2 ^ m) : Nat)) : Int) := by
  unfold cadencelaw01_two.f
  rw [Bin_eq k op _ hx hy]
  unfold binn
  rw [if_neg (show ¬ (op < 17 ∨ 29 < op) by omega), if_neg (by rw [Int.toNat_natCast]; rintro (h | ⟨h, h'⟩); exact h ⟨by omega, by omega⟩; rw [hs h] at h'; exact absurd h' (by decide)), Int.toNat_natCast]
  by_cases s : 25 ≤ op
  · rw [if_pos s, if_pos s]; rfl
  · rw [if_neg s, if_neg s]; rfl
theorem two_op (k : Nat) {op : Int} {m x y : Nat} (h1 : 1 ≤ m) (h2 : m ≤ 64) (hx : x < 2 ^ m) (hy : y < 2 ^ m) (o1 : 17 ≤ op) (o2 : op ≤ 24) :
    cadencelaw01_two.f (k + 2) op (m : Int) (x : Int) (y : Int) = some ((opn op m x y : Nat) : Int) := by
  rw [two_ok k h1 h2 (lt64 h2 hx) (lt64 h2 hy) o1 (by omega) (fun h => by omega), if_neg (by omega), Nat.mod_eq_of_lt hx, Nat.mod_eq_of_lt hy]

theorem alive10 : cadencelaw01_alive.f 10 = some true := by decide +kernel

theorem sum_back {P x y : Nat} (hx : x < P) (hy : y < P) : ((x + y) % P + P - y) % P = x := by
  by_cases h : x + y < P
  · rw [Nat.mod_eq_of_lt h, show x + y + P - y = x + P from by omega, Nat.add_mod_right, Nat.mod_eq_of_lt hx]
  · have e : (x + y) % P = x + y - P := by
      rw [Nat.mod_eq_sub_mod (by omega)]; exact Nat.mod_eq_of_lt (by omega)
    rw [e, show x + y - P + P - y = x from by omega, Nat.mod_eq_of_lt hx]

theorem BitsLaws : cadencelaw01_BitsLaws.Pure := by
  intro w a b hw h2 h3
  obtain ⟨x, rfl, hx⟩ := wf_u64 h2
  obtain ⟨y, rfl, hy⟩ := wf_u64 h3
  refine ⟨10, ?_⟩
  unfold cadencelaw01_BitsLaws.f
  rw [alive10, Option.bind_some, if_pos rfl, Right_eq, Option.bind_some]
  by_cases hr : 1 ≤ w ∧ w ≤ 64
  · obtain ⟨m, rfl⟩ := Int.eq_ofNat_of_zero_le (show 0 ≤ w by omega)
    have h1 : 1 ≤ m := by omega
    have h2 : m ≤ 64 := by omega
    rw [if_pos (decide_eq_true hr), Trim_eq _ hx, Trim_eq _ hy, trn_in rfl h1 h2 hx, trn_in rfl h1 h2 hy]
    simp only [Option.bind_some]
    have lx : x % 2 ^ m < 2 ^ m := Nat.mod_lt _ (Nat.two_pow_pos m)
    have ly : y % 2 ^ m < 2 ^ m := Nat.mod_lt _ (Nat.two_pow_pos m)
    generalize x % 2 ^ m = x at *
    generalize y % 2 ^ m = y at *
    have hP : 2 ≤ 2 ^ m := by
      have : 2 ^ 1 ≤ 2 ^ m := Nat.pow_le_pow_right (by decide) h1
      omega
    have lc : 2 ^ m - (x + 1) < 2 ^ m := by omega
    have ln : (2 ^ m - x) % 2 ^ m < 2 ^ m := Nat.mod_lt _ (by omega)
    have ls : (x + y) % 2 ^ m < 2 ^ m := Nat.mod_lt _ (by omega)
    rw [Com_eq 9 h1 h2 lx, Neg_eq 9 h1 h2 lx]
    simp only [Option.bind_some, if_true]
    rw [show (1 : Int) = ((1 : Nat) : Int) from rfl, two_op 8 h1 h2 lc (by omega) (by decide) (by decide), Option.bind_some]
    have e1 : opn 20 m (2 ^ m - (x + 1)) 1 = (2 ^ m - x) % 2 ^ m := by unfold opn; simp; congr 1; omega
    have e2 : opn 20 m x ((2 ^ m - x) % 2 ^ m) = 0 := by
      unfold opn; simp
      rw [show x + (2 ^ m - x) = 2 ^ m from by omega]; exact Nat.mod_self _
    rw [e1, if_pos rfl, two_op 8 h1 h2 lx ln (by decide) (by decide), Option.bind_some, e2]
    rw [show ((((0 : Nat) : Int)) != 0) = false from rfl, cadencelaw01_BitsLaws.j0, if_neg (by decide), two_op 7 h1 h2 lx ly (by decide) (by decide), Option.bind_some]
    have e3 : opn 20 m x y = (x + y) % 2 ^ m := by unfold opn; simp
    rw [e3, two_op 7 h1 h2 ls ly (by decide) (by decide), Option.bind_some]
    have e4 : opn 21 m ((x + y) % 2 ^ m) y = x := by unfold opn; simp only [show ¬ (21 : Int) = 17 by decide, show ¬ (21 : Int) = 18 by decide, show ¬ (21 : Int) = 19 by decide, show ¬ (21 : Int) = 20 by decide, if_false, if_true]; exact sum_back lx ly
    rw [e4, if_pos rfl, two_op 7 h1 h2 lx ly (by decide) (by decide), Option.bind_some, two_op 7 h1 h2 lx ly (by decide) (by decide), Option.bind_some]
    have e5 : opn 23 m x y = if y = 0 then 2 ^ m - 1 else x / y := by unfold opn; simp
    have e6 : opn 24 m x y = if y = 0 then x else x % y := by unfold opn; simp
    have l5 : opn 23 m x y < 2 ^ m := by
      rw [e5]; split
      · omega
      · exact Nat.lt_of_le_of_lt (Nat.div_le_self _ _) lx
    have l6 : opn 24 m x y < 2 ^ m := by
      rw [e6]; split
      · exact lx
      · exact Nat.lt_of_le_of_lt (Nat.mod_le _ _) lx
    have e7 : opn 22 m (opn 23 m x y) y = opn 23 m x y * y % 2 ^ m := by rw [opn]; simp
    have l7 : opn 22 m (opn 23 m x y) y < 2 ^ m := by rw [e7]; exact Nat.mod_lt _ (by omega)
    have e8 : opn 20 m (opn 22 m (opn 23 m x y) y) (opn 24 m x y) = x := by
      rw [e7, e6, e5]
      unfold opn
      simp only [show ¬ (20 : Int) = 17 by decide, show ¬ (20 : Int) = 18 by decide, show ¬ (20 : Int) = 19 by decide, if_false, if_true]
      by_cases z : y = 0
      · subst z; simp; exact Nat.mod_eq_of_lt lx
      · rw [if_neg z, if_neg z, Nat.mod_add_mod, Nat.mul_comm, Nat.div_add_mod]; exact Nat.mod_eq_of_lt lx
    rw [two_op 7 h1 h2 l5 ly (by decide) (by decide), Option.bind_some, two_op 7 h1 h2 l7 l6 (by decide) (by decide), Option.bind_some, e8, if_pos rfl, trim_lt h1 h2 lx, Option.bind_some]
    by_cases z : y = 0
    · rw [if_pos (by omega)]; simp
    · have hl : opn 24 m x y < y := by rw [e6, if_neg z]; exact Nat.mod_lt _ (by omega)
      rw [if_neg (by omega), if_pos (by omega)]; simp
  · rw [decide_eq_false hr, if_neg (by decide), Bin_eq 8 20 w hx hy]
    unfold binn
    rw [if_neg (by decide), if_pos (.inl hr)]
    rfl
end Go.Proofs.Ytklnafmoihkbhaa.C
