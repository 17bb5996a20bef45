/- A tree of an expression is of the form. -/
import Derived.Test.YtnacekhfebjdfaaLb
namespace Go.Proofs.Ytnacekhfebjdfaa.L
open Go.RowKit Go.Proofs.YtnacekhfebjdfaaW.PrintWords Go.Proofs.YtnacekhfebjdfaaW.PrintLast Go.Proofs.YtnacekhfebjdfaaW.PrintMore Go.Proofs.Ytnacekhfebjdfaa.Gr
set_option linter.unusedVariables false
set_option linter.unusedSimpArgs false

def hasB (k : Int) : Bool := k == 2 || k == 3
/-- An expression's own fields are of the form. -/
def exOwn (x : S37) : Bool := (partsN x.f0 == (x.f3.length : Int)) && (hasB x.f0 == !x.f2.toList.isEmpty) && (!hasB x.f0 || namedB x.f2) && (x.f0 == 1 || x.f1 == 0)
mutual
def exB : S37 → Bool
  | ⟨a, b, c, l⟩ => exOwn ⟨a, b, c, l⟩ && exL l
def exL : List S37 → Bool
  | [] => true
  | x :: r => exB x && exL r
end
theorem exL_all (l : List S37) : exL l = l.all exB := by
  induction l with
  | nil => rfl
  | cons x r ih => rw [exL, ih, List.all_cons]
theorem exB_eq (x : S37) : exB x = (exOwn x && x.f3.all exB) := by
  obtain ⟨a, b, c, l⟩ := x
  rw [exB, exL_all]

theorem ret_bool2 {a b : Bool} (h : a = b) : Ending.returned (.bool a) = .returned (.bool b) := by rw [h]

attribute [local go_sem] G.cell
theorem all_has_no {l : List S37} {y : S37} (h : y ∈ l) (hn : exB y = false) : false = l.all exB := by
  symm
  rw [List.all_eq_false]
  exact ⟨y, h, by rw [hn]; decide⟩
theorem all_have {l : List S37} (h : ∀ j, j < l.length → exB (rd_T37 l (j : Int)) = true) : true = l.all exB := by
  symm
  rw [List.all_eq_true]
  intro y hy
  obtain ⟨j, hj, rfl⟩ := List.getElem_of_mem hy
  have := h j hj
  unfold rd_T37 at this
  rwa [Int.toNat_natCast, List.getD_eq_getElem?_getD, List.getElem?_eq_getElem hj] at this
theorem bcases (b : Bool) : b = true ∨ b = false := by cases b <;> simp
/-- The ways through the test. -/
theorem ex_ways (b2 b3 b1 z p nm e : Bool) (h21 : b2 = true → b1 = true) (h31 : b3 = true → b1 = true) :
    (((p = true ∧ b2 = true) ∨ (p = true ∧ b2 = false ∧ b3 = true) ∨ (p = true ∧ b2 = false ∧ b3 = false) ∨
    (p = false ∧ b2 = true ∧ e = true) ∨ (p = false ∧ b2 = false ∧ b3 = true ∧ e = true) ∨ (p = false ∧ b2 = false ∧ b3 = false ∧ e = false) ∨
    (p = false ∧ b2 = true ∧ e = false ∧ nm = false) ∨ (p = false ∧ b2 = false ∧ b3 = true ∧ e = false ∧ nm = false) ∨
    (p = false ∧ b2 = true ∧ e = false ∧ nm = true ∧ b1 = true ∧ z = true) ∨ (p = false ∧ b2 = false ∧ b3 = true ∧ e = false ∧ nm = true ∧ b1 = true ∧ z = true) ∨
    (p = false ∧ b2 = false ∧ b3 = false ∧ e = true ∧ b1 = true ∧ z = true)) ∧ (!p && ((b2 || b3) == !e) && (!(b2 || b3) || nm) && (!b1 || !z)) = false) ∨
    (((p = false ∧ b2 = true ∧ e = false ∧ nm = true ∧ b1 = true ∧ z = false) ∨ (p = false ∧ b2 = false ∧ b3 = true ∧ e = false ∧ nm = true ∧ b1 = true ∧ z = false) ∨
    (p = false ∧ b2 = false ∧ b3 = false ∧ e = true ∧ b1 = false) ∨ (p = false ∧ b2 = false ∧ b3 = false ∧ e = true ∧ b1 = true ∧ z = false)) ∧ (!p && ((b2 || b3) == !e) && (!(b2 || b3) || nm) && (!b1 || !z)) = true) := by
  revert h21 h31
  cases b2 <;> cases b3 <;> cases b1 <;> cases z <;> cases p <;> cases nm <;> cases e <;> simp
theorem exOwn_eq (x : S37) : exOwn x = (!(partsN x.f0 != (x.f3.length : Int)) && (((x.f0 == 2) || (x.f0 == 3)) == !x.f2.toList.isEmpty) && (!((x.f0 == 2) || (x.f0 == 3)) || namedB x.f2) && (!(x.f0 != 1) || !(x.f1 != 0))) := by
  unfold exOwn hasB
  simp [bne]

set_option maxHeartbeats 8000000 in
set_option maxRecDepth 100000 in
/-- What the parts' loop comes to is asked of whoever uses it. -/
theorem exprForm_walk (x : S37) (A : Option Addr) (c : Nat) (w : World) (hc : k37.C w A x.f3.length x.f3) (hl : x.f3.length ≤ c)
    (ih : ∀ y ∈ x.f3, ∀ (A' : Option Addr) (c' : Nat) (w' : World), k37.C w' A' y.f3.length y.f3 → y.f3.length ≤ c' → Calls Try.prog 19 #[.agg #[.int .i64 y.f0, .int .u64 y.f1, .string y.f2, .slice A' y.f3.length c']] w' fun e w'' => e = .returned (.bool (exB y)) ∧ Below w'.heap.size w' w'') :
    Calls Try.prog 19 #[.agg #[.int .i64 x.f0, .int .u64 x.f1, .string x.f2, .slice A x.f3.length c]] w fun e w' => e = .returned (.bool (exOwn x && x.f3.all exB)) ∧ Below w.heap.size w w' := by
  have hw := ex_ways (x.f0 == 2) (x.f0 == 3) (x.f0 != 1) (x.f1 != 0) (partsN x.f0 != (x.f3.length : Int)) (namedB x.f2) x.f2.toList.isEmpty (by simp; omega) (by simp; omega)
  rw [← exOwn_eq] at hw
  have IH := Aside0.mk ih
  have HC := Aside0.mk hc
  clear ih hc
  obtain ⟨x0, x1, x2, x3⟩ := x
  simp only at *
  rcases hw with ⟨hw, ho⟩ | ⟨hw, ho⟩
  · rw [ho, Bool.false_and]
    clear ho HC IH
    generalize x3.length = n at *
    rcases hw with ⟨hp, h2⟩ | ⟨hp, h2, h3⟩ | ⟨hp, h2, h3⟩ | ⟨hp, h2, he⟩ | ⟨hp, h2, h3, he⟩ | ⟨hp, h2, h3, he⟩ | ⟨hp, h2, he, hn⟩ | ⟨hp, h2, h3, he, hn⟩ | ⟨hp, h2, he, hn, h1, hz⟩ | ⟨hp, h2, h3, he, hn, h1, hz⟩ | ⟨hp, h2, h3, he, h1, hz⟩
    all_goals
      try (have he2 : x2.toList = [] := List.isEmpty_iff.1 he)
      try (have he2 : ¬ x2.toList = [] := by intro h; rw [h] at he; exact absurd he (by decide))
      go_enter Try.func19, Try.ntmps19
      go_upto_region 2 with (fail)
      all_goals
        refine wp_region_grown (by kernel_rfl) (by kernel_rfl) ?_
        repeat (go_big_quiet_step (first | (go_at_call 24; exact call_of (parts_calls _ _)) | (go_at_call 9; (first | rw [← hn] | skip); exact call_of (named_calls _ _))))
        refine wpQuiet_nil ?_
        rintro _ ⟨g, rfl⟩
        go_wp2
        go_ret
        exact ⟨rfl, ((Below.refl _ _).alloc (Nat.le_refl _) _).trans (g.below.mono (by simp))⟩
  · rw [ho, Bool.true_and]
    clear ho
    have hlm := HC.out.2.1
    rcases hw with ⟨hp, h2, he, hn, h1, hz⟩ | ⟨hp, h2, h3, he, hn, h1, hz⟩ | ⟨hp, h2, h3, he, h1⟩ | ⟨hp, h2, h3, he, h1, hz⟩
    all_goals
      try (have he2 : x2.toList = [] := List.isEmpty_iff.1 he)
      try (have he2 : ¬ x2.toList = [] := by intro h; rw [h] at he; exact absurd he (by decide))
      go_enter Try.func19, Try.ntmps19
      go_upto_region 2 with (fail)
      all_goals
        refine wp_region_grown (by kernel_rfl) (by kernel_rfl) ?_
        repeat (go_big_quiet_step (first | (go_at_call 24; exact call_of (parts_calls _ _)) | (go_at_call 9; (first | rw [← hn] | skip); exact call_of (named_calls _ _))))
        refine wpQuiet_nil ?_
        rintro _ ⟨g, rfl⟩
        have HG := Aside0.mk (((Below.refl w.heap.size w).alloc (Nat.le_refl _) _).trans (g.below.mono (by simp)))
        clear hp h2 he h1 he2
        try clear hn
        try clear hz
        try clear h3
        go_wp2
        go_loopw [50] (fun i W => ∃ k : Nat, i = .int .i64 k ∧ k ≤ x3.length ∧ Aside0 (Below w.heap.size w W) ∧ Aside0 (∀ j, j < k → exB (rd_T37 x3 (j : Int)) = true)) (fun i _ => x3.length - (intOf i).toNat)
        case atStart => exact ⟨0, rfl, Nat.zero_le _, HG, ⟨fun j hj => absurd hj (Nat.not_lt_zero _)⟩⟩
        case round =>
          clear HG
          obtain ⟨k, rfl, hk, HB, HK⟩ := hrel
          by_cases hlt : k < x3.length
          · obtain ⟨ad, A3, c3, e1, q0, q1, q2, q3, l3, g3⟩ := at_T37 HC.out (k : Int) (Int.natCast_nonneg _) (by omega)
            cases e1
            rw [Int.toNat_natCast] at q0 q1 q2 q3
            have b0 := World.block_lt_of_cell? w _ q0
            replace q0 := (HB.out.cell b0).trans q0
            replace q1 := (HB.out.cell (World.block_lt_of_cell? w _ q1)).trans q1
            replace q2 := (HB.out.cell (World.block_lt_of_cell? w _ q2)).trans q2
            replace q3 := (HB.out.cell (World.block_lt_of_cell? w _ q3)).trans q3
            have hi1 : (k : Int) < (x3.length : Int) := by omega
            have G3 := Aside0.mk g3
            have L3 := Aside0.mk l3
            clear g3 l3
            have MEM := Aside0.mk (show rd_T37 x3 (k : Int) ∈ x3 by unfold rd_T37; rw [Int.toNat_natCast, List.getD_eq_getElem?_getD, List.getElem?_eq_getElem hlt]; exact List.getElem_mem _)
            have HB2 := Aside0.mk (HB.out.alloc (HB.out.size) (.cells #[Value.int IntKind.i64 (rd_T37 x3 (k : Int)).f0, Value.int IntKind.u64 (rd_T37 x3 (k : Int)).f1, Value.string (rd_T37 x3 (k : Int)).f2, Value.slice A3 (rd_T37 x3 (k : Int)).f3.length c3] 37))
            have hy := bcases (exB (rd_T37 x3 (k : Int)))
            rcases hy with hy | hy
            all_goals
              have HY := Aside0.mk hy
              clear hy
              go_wp2_with fail
              refine (IH.out _ MEM.out A3 c3 _ (Kd.C_below G3.out HB2.out) L3.out).mono ?_
              rw [HY.out]
              rintro e w' ⟨rfl, hb⟩
              have HB3 := Aside0.mk (HB2.out.trans (hb.mono (HB2.out.size)))
              clear hb
              go_wp2
            · refine ⟨⟨k + 1, by go_num, by omega, HB3, ⟨fun j hj => ?_⟩⟩, by simp [intOf]; omega⟩
              by_cases hj2 : j = k
              · rw [hj2]; exact HY.out
              · exact HK.out j (by omega)
            · go_ret
              exact ⟨ret_bool2 (all_has_no MEM.out HY.out), HB3.out⟩
          · go_wp2
            go_ret
            exact ⟨ret_bool2 (all_have (fun j hj => HK.out j (by omega))), HB.out⟩

/-- The kids' own trees, by their size. -/
theorem exprForm_calls : ∀ (n : Nat) (x : S37), SizeOf.sizeOf x ≤ n → ∀ (A : Option Addr) (c : Nat) (w : World), k37.C w A x.f3.length x.f3 → x.f3.length ≤ c → Calls Try.prog 19 #[.agg #[.int .i64 x.f0, .int .u64 x.f1, .string x.f2, .slice A x.f3.length c]] w fun e w' => e = .returned (.bool (exB x)) ∧ Below w.heap.size w w' := by
  intro n
  induction n with
  | zero => intro x h; obtain ⟨a, b, c, l⟩ := x; simp at h
  | succ n ih =>
    intro x h A c w hc hl
    rw [exB_eq]
    refine exprForm_walk x A c w hc hl fun y hy A' c' w' hc' hl' => ih y ?_ A' c' w' hc' hl'
    have := List.sizeOf_lt_of_mem hy
    obtain ⟨a, b, c, l⟩ := x
    simp at h this
    omega
end Go.Proofs.Ytnacekhfebjdfaa.L
