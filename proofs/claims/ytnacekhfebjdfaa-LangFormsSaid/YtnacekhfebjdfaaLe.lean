/- The reference's: a tree of an expression is of the form. -/
import Derived.Test.YtnacekhfebjdfaaLc
namespace Go.Proofs.Ytnacekhfebjdfaa.L
open Go.RowKit Go.Proofs.YtnacekhfebjdfaaW.PrintWords Go.Proofs.YtnacekhfebjdfaaW.PrintLast Go.Proofs.YtnacekhfebjdfaaW.PrintMore Go.Proofs.Ytnacekhfebjdfaa.Gr
set_option linter.unusedVariables false
set_option linter.unusedSimpArgs false
attribute [local go_sem] G.cell

abbrev gw {w : World} (_ : G w) : World := w
set_option maxHeartbeats 8000000 in
set_option maxRecDepth 100000 in
/-- What the parts' loop comes to is asked of whoever uses it. -/
theorem refExprForm_walk (x : S37) (A : Option Addr) (c : Nat) (w : World) (hc : k37.C w A x.f3.length x.f3) (hl : x.f3.length ≤ c)
    (ih : ∀ y ∈ x.f3, ∀ (A' : Option Addr) (c' : Nat) (w' : World), k37.C w' A' y.f3.length y.f3 → y.f3.length ≤ c' → Calls Try.prog 22 #[.agg #[.int .i64 y.f0, .int .u64 y.f1, .string y.f2, .slice A' y.f3.length c']] w' fun e w'' => e = .returned (.bool (exB y)) ∧ Below w'.heap.size w' w'') :
    Calls Try.prog 22 #[.agg #[.int .i64 x.f0, .int .u64 x.f1, .string x.f2, .slice A x.f3.length c]] w fun e w' => e = .returned (.bool (exOwn x && x.f3.all exB)) ∧ Below w.heap.size w w' := by
  have hw := ex_ways (x.f0 == 2) (x.f0 == 3) (x.f0 != 1) (x.f1 != 0) ((x.f3.length : Int) != partsN x.f0) (namedB x.f2) x.f2.toList.isEmpty (by simp; omega) (by simp; omega)
  rw [show ((x.f3.length : Int) != partsN x.f0) = (partsN x.f0 != (x.f3.length : Int)) from bne_comm, ← exOwn_eq, show (partsN x.f0 != (x.f3.length : Int)) = ((x.f3.length : Int) != partsN x.f0) from bne_comm] at hw
  have IH := Aside0.mk ih
  have HC := Aside0.mk hc
  clear ih hc
  obtain ⟨x0, x1, x2, x3⟩ := x
  simp only at *
  rcases hw with ⟨hw, ho⟩ | ⟨hw, ho⟩
  · rw [ho, Bool.false_and]
    clear ho HC IH
    generalize x3.length = n at *
    rcases hw with ⟨hp, h2⟩ | ⟨hp, h2, h3⟩ | ⟨hp, h2, h3⟩ | ⟨hp, h2, he⟩ | ⟨hp, h2, h3, he⟩ | ⟨hp, h2, h3, he⟩ | ⟨hp, h2, he, hn⟩ | ⟨hp, h2, h3, he, hn⟩ | ⟨hp, h2, he, hn, h1, hz⟩ | ⟨hp, h2, h3, he, hn, h1, hz⟩ | ⟨hp, h2, h3, he, h1, hz⟩
    all_goals
      try (have he2 : x2.toList = [] := List.isEmpty_iff.1 he)
      try (have he2 : ¬ x2.toList = [] := by intro h; rw [h] at he; exact absurd he (by decide))
      go_enter Try.func22, Try.ntmps22
      go_upto_region 2 with (fail)
      all_goals
        refine wp_region_grown (by kernel_rfl) (by kernel_rfl) ?_
        repeat (go_big_quiet_step (first | (go_at_call 25; exact call_of (refParts_calls _ _)) | (go_at_call 12; (first | rw [← hn] | skip); exact call_of (refName_calls _ _))))
        refine wpQuiet_nil ?_
        rintro _ ⟨g, rfl⟩
        go_wp2
        go_ret
        exact ⟨rfl, ((Below.refl _ _).alloc (Nat.le_refl _) _).trans (g.below.mono (by simp))⟩
  · rw [ho, Bool.true_and]
    clear ho
    have hlm := HC.out.2.1
    rcases hw with ⟨hp, h2, he, hn, h1, hz⟩ | ⟨hp, h2, h3, he, hn, h1, hz⟩ | ⟨hp, h2, h3, he, h1⟩ | ⟨hp, h2, h3, he, h1, hz⟩
    all_goals
      try (have he2 : x2.toList = [] := List.isEmpty_iff.1 he)
      try (have he2 : ¬ x2.toList = [] := by intro h; rw [h] at he; exact absurd he (by decide))
      go_enter Try.func22, Try.ntmps22
      go_upto_region 2 with (fail)
      all_goals
        refine wp_region_grown (by kernel_rfl) (by kernel_rfl) ?_
        repeat (go_big_quiet_step (first | (go_at_call 25; exact call_of (refParts_calls _ _)) | (go_at_call 12; (first | rw [← hn] | skip); exact call_of (refName_calls _ _))))
        refine wpQuiet_nil ?_
        rintro _ ⟨g, rfl⟩
        clear hp h2 he h1 he2
        try clear hn
        try clear hz
        try clear h3
        have gout : ∀ {o : Obj} (g : G (w.alloc o)), Below w.heap.size w g.W := fun g => ((Below.refl _ _).alloc (Nat.le_refl _) _).trans (g.below.mono (by simp))
        go_wp2
        go_loopw [4] (fun i W => ∃ (k : Nat) (g' : G (gw g)), i = .int .i64 k ∧ W = g'.W ∧ k ≤ x3.length ∧ Aside0 (∀ j, j < k → exB (rd_T37 x3 (j : Int)) = true)) (fun i _ => x3.length - (intOf i).toNat)
        case atStart => exact ⟨0, g, rfl, rfl, Nat.zero_le _, ⟨fun j hj => absurd hj (Nat.not_lt_zero _)⟩⟩
        case round =>
          obtain ⟨k, g', rfl, rfl, hk, HK⟩ := hrel
          by_cases hlt : k < x3.length
          · obtain ⟨ad, A3, c3, e1, q0, q1, q2, q3, l3, g3⟩ := at_T37 HC.out (k : Int) (Int.natCast_nonneg _) (by omega)
            cases e1
            rw [Int.toNat_natCast] at q0 q1 q2 q3
            replace q0 := ((gout g').cell (World.block_lt_of_cell? w _ q0)).trans q0
            replace q1 := ((gout g').cell (World.block_lt_of_cell? w _ q1)).trans q1
            replace q2 := ((gout g').cell (World.block_lt_of_cell? w _ q2)).trans q2
            replace q3 := ((gout g').cell (World.block_lt_of_cell? w _ q3)).trans q3
            have hi1 : (k : Int) < (x3.length : Int) := by omega
            have G3 := Aside0.mk g3
            have L3 := Aside0.mk l3
            clear g3 l3
            have MEM := Aside0.mk (show rd_T37 x3 (k : Int) ∈ x3 by unfold rd_T37; rw [Int.toNat_natCast, List.getD_eq_getElem?_getD, List.getElem?_eq_getElem hlt]; exact List.getElem_mem _)
            have hy := bcases (exB (rd_T37 x3 (k : Int)))
            rcases hy with hy | hy
            all_goals
              have HY := Aside0.mk hy
              clear hy
              go_wp2_with fail
              refine (call_of (IH.out _ MEM.out A3 c3 _ (Kd.C_below G3.out (gout _)) L3.out)).mono ?_
              rw [HY.out]
              rintro _ _ ⟨rfl, gg, rfl⟩
              go_wp2
            · refine ⟨⟨k + 1, gg, by go_num, rfl, by omega, ⟨fun j hj => ?_⟩⟩, by simp [intOf]; omega⟩
              by_cases hj2 : j = k
              · rw [hj2]; exact HY.out
              · exact HK.out j (by omega)
            · go_ret
              exact ⟨ret_bool2 (all_has_no MEM.out HY.out), gout _⟩
          · go_wp2
            go_ret
            exact ⟨ret_bool2 (all_have (fun j hj => HK.out j (by omega))), gout _⟩

/-- The kids' own trees, by their size. -/
theorem refExprForm_calls : ∀ (n : Nat) (x : S37), SizeOf.sizeOf x ≤ n → ∀ (A : Option Addr) (c : Nat) (w : World), k37.C w A x.f3.length x.f3 → x.f3.length ≤ c → Calls Try.prog 22 #[.agg #[.int .i64 x.f0, .int .u64 x.f1, .string x.f2, .slice A x.f3.length c]] w fun e w' => e = .returned (.bool (exB x)) ∧ Below w.heap.size w w' := by
  intro n
  induction n with
  | zero => intro x h; obtain ⟨a, b, c, l⟩ := x; simp at h
  | succ n ih =>
    intro x h A c w hc hl
    rw [exB_eq]
    refine refExprForm_walk x A c w hc hl fun y hy A' c' w' hc' hl' => ih y ?_ A' c' w' hc' hl'
    have := List.sizeOf_lt_of_mem hy
    obtain ⟨a, b, c, l⟩ := x
    simp at h this
    omega
end Go.Proofs.Ytnacekhfebjdfaa.L
