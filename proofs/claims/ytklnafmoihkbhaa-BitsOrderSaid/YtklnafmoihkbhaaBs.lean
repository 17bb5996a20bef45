import Derived.Test.YtklnafmoihkbhaaBr
import Derived.Test.YtklnafmoihkbhaaCc
namespace Go.Proofs.Ytklnafmoihkbhaa.C
open Go.RowKit Go.Proofs.YtklnafmoihkbhaaW.PrintWords Go.Proofs.YtklnafmoihkbhaaW.PrintLast Go.Proofs.YtklnafmoihkbhaaW.PrintMore
open Bm

theorem BitsTwo : cadencelaw01_BitsTwo.Pure := by
  intro op w a b _ _ h2 h3
  obtain ⟨x, rfl, hx⟩ := wf_u64 h2
  obtain ⟨y, rfl, hy⟩ := wf_u64 h3
  refine ⟨65 + 2, ?_⟩
  unfold cadencelaw01_BitsTwo.f
  rw [Bin_eq 65 op w hx hy, rBin_eq 65 (by decide) op w hx hy]
  simp

theorem BitsWidths : cadencelaw01_BitsWidths.Pure := by
  intro w a _ h
  obtain ⟨x, rfl, hx⟩ := wf_u64 h
  unfold cadencelaw01_BitsWidths.f
  rw [Right_eq, rRight_eq, Trim_eq w hx, rTrim_eq w hx, Signed_eq w hx, rSigned_eq w hx]
  simp

theorem Cmp_same (k : Nat) (op w : Int) {x y : Nat} (hx : x < 2 ^ 64) (hy : y < 2 ^ 64) : ∃ r, bits_Cmp.f (k + 1) op w (x : Int) (y : Int) = some r ∧ cadenceref01_Cmp.f (k + 1) op w (x : Int) (y : Int) = some r := by
  unfold bits_Cmp.f cadenceref01_Cmp.f
  by_cases a1 : op < 9
  · rw [if_pos a1, if_pos a1]; simp [bits_Cmp.j0, cadenceref01_Cmp.j0]
  rw [if_neg a1, if_neg a1]
  by_cases a2 : op > 13
  · rw [decide_eq_true a2]; simp [bits_Cmp.j0, cadenceref01_Cmp.j0]
  rw [decide_eq_false a2]
  have nf : ¬ (false = true) := by decide
  rw [bits_Cmp.j0, cadenceref01_Cmp.j0, if_neg nf, if_neg nf, Right_eq, rRight_eq, Option.bind_some, Option.bind_some]
  by_cases hw : 1 ≤ w ∧ w ≤ 64
  · rw [if_pos (decide_eq_true hw), if_pos (decide_eq_true hw)]
    simp only [Trim_eq w hx, rTrim_eq w hx, Trim_eq w hy, rTrim_eq w hy, Option.bind_some, Signed_eq w (trn_le hx), Signed_eq w (trn_le hy), rSigned_eq w (trn_le hx), rSigned_eq w (trn_le hy)]
    repeat' split
    all_goals exact ⟨_, rfl, rfl⟩
  · rw [decide_eq_false hw, if_neg nf, if_neg nf]
    exact ⟨_, rfl, rfl⟩

theorem BitsCompare : cadencelaw01_BitsCompare.Pure := by
  intro op w a b _ _ h2 h3
  obtain ⟨x, rfl, hx⟩ := wf_u64 h2
  obtain ⟨y, rfl, hy⟩ := wf_u64 h3
  obtain ⟨r, e1, e2⟩ := Cmp_same 0 op w hx hy
  refine ⟨0 + 1, ?_⟩
  unfold cadencelaw01_BitsCompare.f
  rw [e1, e2]
  simp

/-- What Cat comes to. -/
def catn (w : Int) (x : Nat) (v : Int) (y : Nat) : Int × Int :=
  if (1 ≤ w ∧ w ≤ 64) ∧ (1 ≤ v ∧ v ≤ 64) ∧ w + v ≤ 64 then (((x % 2 ^ w.toNat * 2 ^ v.toNat + y % 2 ^ v.toNat : Nat) : Int), 0) else (0, 5)

theorem cat_parts {m n x y : Nat} (h : m + n ≤ 64) (hx : x < 2 ^ m) (hy : y < 2 ^ n) :
    x * 2 ^ n + y < 2 ^ 64 ∧ shl .u64 (x : Int) (n : Int) = ((x * 2 ^ n : Nat) : Int) ∧ Go.bits .or .u64 ((x * 2 ^ n : Nat) : Int) (y : Int) = ((x * 2 ^ n + y : Nat) : Int) ∧
    IntKind.u64.wrap (((x * 2 ^ n : Nat) : Int) + (y : Int)) = ((x * 2 ^ n + y : Nat) : Int) := by
  have hb : x * 2 ^ n + y < 2 ^ (m + n) := by
    rw [Nat.pow_add]
    have : (x + 1) * 2 ^ n ≤ 2 ^ m * 2 ^ n := Nat.mul_le_mul_right _ hx
    rw [Nat.succ_mul] at this
    omega
  have hl := lt64 h hb
  have e0 : x * 2 ^ n % 2 ^ 64 = x * 2 ^ n := Nat.mod_eq_of_lt (by omega)
  refine ⟨hl, ?_, ?_, ?_⟩
  · rw [shl_nat x rfl (by omega), e0]
  · rw [or_nat (by omega) (by omega), Nat.mul_comm x, Nat.two_pow_add_eq_or_of_lt hy]
  · rw [← Int.natCast_add, u64_nat, Nat.mod_eq_of_lt hl]

theorem Cat_eq (k : Nat) {w v : Int} {x y : Nat} (hw : -9223372036854775808 ≤ w ∧ w ≤ 9223372036854775807) (hv : -9223372036854775808 ≤ v ∧ v ≤ 9223372036854775807) (hx : x < 2 ^ 64) (hy : y < 2 ^ 64) :
    bits_Cat.f (k + 1) w (x : Int) v (y : Int) = some (catn w x v y) ∧ cadenceref01_Cat.f (k + 1) w (x : Int) v (y : Int) = some (catn w x v y) := by
  have nf : ¬ (false = true) := by decide
  unfold bits_Cat.f cadenceref01_Cat.f catn
  rw [Right_eq, rRight_eq, Right_eq, rRight_eq]
  simp only [Option.bind_some]
  by_cases a1 : 1 ≤ w ∧ w ≤ 64
  · by_cases a2 : 1 ≤ v ∧ v ≤ 64
    · have e : wrap64 (w + v) = w + v := by rw [w64]; omega
      rw [if_pos (decide_eq_true a1), if_pos (decide_eq_true a1), if_pos (decide_eq_true a2), if_pos (decide_eq_true a2), e]
      by_cases a3 : w + v ≤ 64
      · obtain ⟨m, rfl⟩ := Int.eq_ofNat_of_zero_le (show 0 ≤ w by omega)
        obtain ⟨n, rfl⟩ := Int.eq_ofNat_of_zero_le (show 0 ≤ v by omega)
        obtain ⟨hl, e1, e2, e3⟩ := cat_parts (m := m) (n := n) (x := x % 2 ^ m) (y := y % 2 ^ n) (by omega) (Nat.mod_lt _ (Nat.two_pow_pos _)) (Nat.mod_lt _ (Nat.two_pow_pos _))
        have en : IntKind.u64.wrap (n : Int) = (n : Int) := wrapin (by omega) (by omega)
        rw [decide_eq_false (show ¬ ((m : Int) + (n : Int) > 64) by omega), bits_Cat.j0, cadenceref01_Cat.j0, if_neg nf, if_neg nf, if_pos ⟨a1, a2, a3⟩, en, Trim_eq _ hx, Trim_eq _ hy, rTrim_eq _ hx, rTrim_eq _ hy, trn_in rfl (by omega) (by omega) hx, trn_in rfl (by omega) (by omega) hy]
        simp only [Option.bind_some]
        rw [if_pos (show (0 : Int) ≤ (n : Int) by omega), if_pos (show (0 : Int) ≤ (n : Int) by omega), e1, e2, e3]
        exact ⟨rfl, rfl⟩
      · rw [decide_eq_true (show w + v > 64 by omega), bits_Cat.j0, cadenceref01_Cat.j0, if_pos rfl, if_pos rfl, if_neg (fun h => a3 h.2.2)]
        exact ⟨rfl, rfl⟩
    · rw [if_pos (decide_eq_true a1), if_pos (decide_eq_true a1), decide_eq_false a2, if_neg nf, if_neg nf, bits_Cat.j0, cadenceref01_Cat.j0, if_pos rfl, if_pos rfl, if_neg (fun h => a2 h.2.1)]
      exact ⟨rfl, rfl⟩
  · rw [decide_eq_false a1, if_neg nf, if_neg nf, bits_Cat.j0, cadenceref01_Cat.j0, if_pos rfl, if_pos rfl, if_neg (fun h => a1 h.1)]
    exact ⟨rfl, rfl⟩

/-- What Slice comes to. -/
def slicen (w : Int) (x : Nat) (a n : Int) : Int × Int :=
  if (1 ≤ w ∧ w ≤ 64) ∧ 1 ≤ n ∧ 0 ≤ a ∧ a + n ≤ w then (((x % 2 ^ w.toNat / 2 ^ a.toNat % 2 ^ n.toNat : Nat) : Int), 0) else (0, 5)

theorem Slice_eq (k : Nat) {w a n : Int} {x : Nat} (hw : -9223372036854775808 ≤ w ∧ w ≤ 9223372036854775807) (ha : -9223372036854775808 ≤ a ∧ a ≤ 9223372036854775807) (hn : -9223372036854775808 ≤ n ∧ n ≤ 9223372036854775807) (hx : x < 2 ^ 64) :
    bits_Slice.f (k + 1) w (x : Int) a n = some (slicen w x a n) ∧ cadenceref01_Slice.f (k + 1) w (x : Int) a n = some (slicen w x a n) := by
  have nf : ¬ (false = true) := by decide
  unfold bits_Slice.f cadenceref01_Slice.f slicen
  rw [Right_eq, rRight_eq]
  simp only [Option.bind_some]
  by_cases a1 : 1 ≤ w ∧ w ≤ 64
  case neg =>
    rw [decide_eq_false a1, if_neg nf, if_neg nf, if_neg (fun h => a1 h.1), bits_Slice.j0, cadenceref01_Slice.j0, if_pos rfl, if_pos rfl]
    exact ⟨rfl, rfl⟩
  rw [if_pos (decide_eq_true a1), if_pos (decide_eq_true a1)]
  by_cases a2 : 1 ≤ n ∧ 0 ≤ a ∧ a + n ≤ w
  · obtain ⟨m, rfl⟩ := Int.eq_ofNat_of_zero_le (show 0 ≤ w by omega)
    obtain ⟨b, rfl⟩ := Int.eq_ofNat_of_zero_le (show 0 ≤ a by omega)
    obtain ⟨c, rfl⟩ := Int.eq_ofNat_of_zero_le (show 0 ≤ n by omega)
    have e1 : wrap64 ((m : Int) - (b : Int)) = (m : Int) - (b : Int) := by rw [w64]; omega
    have e2 : wrap64 ((m : Int) - (c : Int)) = (m : Int) - (c : Int) := by rw [w64]; omega
    have lx : x % 2 ^ m < 2 ^ m := Nat.mod_lt _ (Nat.two_pow_pos _)
    have l : x % 2 ^ m / 2 ^ b < 2 ^ 64 := Nat.lt_of_le_of_lt (Nat.div_le_self _ _) (lt64 (by omega) lx)
    rw [if_neg (show ¬ (c : Int) < 1 by omega), if_neg (show ¬ (b : Int) < 0 by omega), if_neg (show ¬ (b : Int) > (m : Int) by omega), if_neg (show ¬ (c : Int) < 1 by omega), if_neg (show ¬ (c : Int) > 64 by omega), if_neg (show ¬ (b : Int) < 0 by omega), if_pos ⟨a1, a2⟩, e1, e2]
    rw [decide_eq_false (show ¬ (c : Int) > (m : Int) - (b : Int) by omega), decide_eq_false (show ¬ (b : Int) > (m : Int) - (c : Int) by omega), bits_Slice.j0, cadenceref01_Slice.j0, if_neg nf, if_neg nf, Trim_eq _ hx, rTrim_eq _ hx, trn_in rfl (by omega) (by omega) hx]
    simp only [Option.bind_some]
    have eb : IntKind.u64.wrap (b : Int) = (b : Int) := wrapin (by omega) (by omega)
    rw [eb, if_pos (show (0 : Int) ≤ (b : Int) by omega), if_pos (show (0 : Int) ≤ (b : Int) by omega), shr_nat _ rfl (by omega), Trim_eq _ l, rTrim_eq _ l, trn_in rfl (by omega) (by omega) l]
    exact ⟨rfl, rfl⟩
  · rw [if_neg (show ¬ ((1 ≤ w ∧ w ≤ 64) ∧ 1 ≤ n ∧ 0 ≤ a ∧ a + n ≤ w) from fun h => a2 h.2)]
    constructor
    · by_cases b1 : n < 1
      · rw [if_pos b1, bits_Slice.j0, if_pos rfl]
      rw [if_neg b1]
      by_cases b2 : a < 0
      · rw [if_pos b2, bits_Slice.j0, if_pos rfl]
      rw [if_neg b2]
      by_cases b3 : a > w
      · rw [if_pos b3, bits_Slice.j0, if_pos rfl]
      rw [if_neg b3, show wrap64 (w - a) = w - a from by rw [w64]; omega, decide_eq_true (by omega), bits_Slice.j0, if_pos rfl]
    · by_cases b1 : n < 1
      · rw [if_pos b1, cadenceref01_Slice.j0, if_pos rfl]
      rw [if_neg b1]
      by_cases b2 : n > 64
      · rw [if_pos b2, cadenceref01_Slice.j0, if_pos rfl]
      rw [if_neg b2]
      by_cases b3 : a < 0
      · rw [if_pos b3, cadenceref01_Slice.j0, if_pos rfl]
      rw [if_neg b3, show wrap64 (w - n) = w - n from by rw [w64]; omega, decide_eq_true (by omega), cadenceref01_Slice.j0, if_pos rfl]

/-- What Ext comes to. -/
def extn (op w : Int) (x : Nat) (t : Int) : Int × Int :=
  if ¬ (op = 32 ∨ op = 33) then (0, 73) else if ¬ ((1 ≤ w ∧ w ≤ 64) ∧ (1 ≤ t ∧ t ≤ 64) ∧ w ≤ t) then (0, 5)
  else if op = 32 then ((trn w x : Int), 0) else ((trn t (sgn w x % 18446744073709551616).toNat : Int), 0)

theorem Ext_eq (k : Nat) (op w t : Int) {x : Nat} (hx : x < 2 ^ 64) :
    bits_Ext.f (k + 2) op w (x : Int) t = some (extn op w x t) ∧ cadenceref01_Ext.f (k + 2) op w (x : Int) t = some (extn op w x t) := by
  have nf : ¬ (false = true) := by decide
  unfold bits_Ext.f cadenceref01_Ext.f extn
  have hz : ∀ z : Int, ∃ n : Nat, IntKind.u64.wrap z = (n : Int) ∧ n < 2 ^ 64 ∧ n = (z % 18446744073709551616).toNat := fun z => ⟨(z % 18446744073709551616).toNat, by rw [u64w]; omega, by rw [p64]; omega, rfl⟩
  have tail : ∀ b : Bool, b = !(decide ((1 ≤ w ∧ w ≤ 64) ∧ (1 ≤ t ∧ t ≤ 64) ∧ w ≤ t)) → op = 32 ∨ op = 33 →
      bits_Ext.j1 (k + 1) op w (x : Int) t b = some (if ¬ (op = 32 ∨ op = 33) then (0, 73) else if ¬ ((1 ≤ w ∧ w ≤ 64) ∧ (1 ≤ t ∧ t ≤ 64) ∧ w ≤ t) then (0, 5) else if op = 32 then ((trn w x : Int), 0) else ((trn t (sgn w x % 18446744073709551616).toNat : Int), 0)) ∧
      cadenceref01_Ext.j1 (k + 1) op w (x : Int) t b = some (if ¬ (op = 32 ∨ op = 33) then (0, 73) else if ¬ ((1 ≤ w ∧ w ≤ 64) ∧ (1 ≤ t ∧ t ≤ 64) ∧ w ≤ t) then (0, 5) else if op = 32 then ((trn w x : Int), 0) else ((trn t (sgn w x % 18446744073709551616).toNat : Int), 0)) := by
    intro b hb ho
    subst hb
    rw [if_neg (not_not_intro ho)]
    by_cases h : (1 ≤ w ∧ w ≤ 64) ∧ (1 ≤ t ∧ t ≤ 64) ∧ w ≤ t
    · obtain ⟨n, e1, e2, e3⟩ := hz (sgn w x)
      rw [decide_eq_true h, if_neg (not_not_intro h), bits_Ext.j1, cadenceref01_Ext.j1, if_neg (show ¬ ((!true) = true) by decide), if_neg (show ¬ ((!true) = true) by decide)]
      by_cases c : op = 32
      · rw [if_pos c, if_pos c, if_pos c, Trim_eq _ hx, rTrim_eq _ hx]; exact ⟨rfl, rfl⟩
      · rw [if_neg c, if_neg c, if_neg c, Signed_eq _ hx, rSigned_eq _ hx]
        simp only [Option.bind_some]
        rw [e1, Trim_eq _ e2, rTrim_eq _ e2, ← e3]; exact ⟨rfl, rfl⟩
    · rw [decide_eq_false h, if_pos h, bits_Ext.j1, cadenceref01_Ext.j1]; simp
  have mid : ∀ b : Bool, b = !(decide (op = 32 ∨ op = 33)) →
      bits_Ext.j0 (k + 2) op w (x : Int) t b = some (if ¬ (op = 32 ∨ op = 33) then (0, 73) else if ¬ ((1 ≤ w ∧ w ≤ 64) ∧ (1 ≤ t ∧ t ≤ 64) ∧ w ≤ t) then (0, 5) else if op = 32 then ((trn w x : Int), 0) else ((trn t (sgn w x % 18446744073709551616).toNat : Int), 0)) ∧
      cadenceref01_Ext.j0 (k + 2) op w (x : Int) t b = some (if ¬ (op = 32 ∨ op = 33) then (0, 73) else if ¬ ((1 ≤ w ∧ w ≤ 64) ∧ (1 ≤ t ∧ t ≤ 64) ∧ w ≤ t) then (0, 5) else if op = 32 then ((trn w x : Int), 0) else ((trn t (sgn w x % 18446744073709551616).toNat : Int), 0)) := by
    intro b hb
    subst hb
    by_cases ho : op = 32 ∨ op = 33
    · rw [bits_Ext.j0, cadenceref01_Ext.j0, decide_eq_true ho]
      rw [if_neg (show ¬ ((!true) = true) by decide), if_neg (show ¬ ((!true) = true) by decide), Right_eq, rRight_eq, Right_eq, rRight_eq]
      simp only [Option.bind_some]
      by_cases a1 : 1 ≤ w ∧ w ≤ 64
      · rw [if_pos (decide_eq_true a1), if_pos (decide_eq_true a1)]
        by_cases a2 : 1 ≤ t ∧ t ≤ 64
        · rw [if_pos (decide_eq_true a2), if_pos (decide_eq_true a2)]
          exact tail _ (by simp only [a1, a2]; by_cases g : t < w <;> simp [g] <;> omega) ho
        · rw [decide_eq_false a2, if_neg nf, if_neg nf]
          exact tail _ (by simp [a2]) ho
      · rw [decide_eq_false a1, if_neg nf, if_neg nf]
        exact tail _ (by simp [a1]) ho
    · rw [bits_Ext.j0, cadenceref01_Ext.j0, decide_eq_false ho, if_pos ho]; simp
  by_cases c : op = 32
  · have h := mid false (by simp [c])
    exact ⟨by rw [if_pos c]; exact h.1, by rw [if_pos c]; exact h.2⟩
  · have h := mid (op != 33) (by simp [c]; rfl)
    exact ⟨by rw [if_neg c]; exact h.1, by rw [if_neg c]; exact h.2⟩

theorem BitsParts : cadencelaw01_BitsParts.Pure := by
  intro op w v a b f n h0 h1 h2 h3 h4 h5 h6
  obtain ⟨x, rfl, hx⟩ := wf_u64 h3
  obtain ⟨y, rfl, hy⟩ := wf_u64 h4
  obtain ⟨c1, c2⟩ := Cat_eq 3 (wf_i64 h1) (wf_i64 h2) hx hy
  obtain ⟨s1, s2⟩ := Slice_eq 2 (wf_i64 h1) (wf_i64 h5) (wf_i64 h6) hx
  obtain ⟨e1, e2⟩ := Ext_eq 0 op w v hx
  refine ⟨4, ?_⟩
  unfold cadencelaw01_BitsParts.f
  rw [c1, c2]
  simp only [Option.bind_some, if_true]
  simp [cadencelaw01_BitsParts.j0, cadencelaw01_BitsParts.j1, s1, s2, e1, e2]
end Go.Proofs.Ytklnafmoihkbhaa.C
