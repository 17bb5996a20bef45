/- Sections that print.sh wrote for single laws of this seat, laid together by merge.py into one namespace. -/
import Derived.Test.YtklnafmoihkbhaaCa
import Derived.Test.YtklnafmoihkbhaaCb
namespace Go.Proofs.Ytklnafmoihkbhaa.C
open Go.RowKit Go.Proofs.YtklnafmoihkbhaaW.PrintWords Go.Proofs.YtklnafmoihkbhaaW.PrintLast Go.Proofs.YtklnafmoihkbhaaW.PrintMore
attribute [local go_sem] max2_int min2_int max_two min_two max_three min_three max_four min_four
set_option linter.unusedVariables false
set_option linter.unusedSimpArgs false

/-! ### cadencelaw01_BitsTwo: function 8 -/
def cadencelaw01_BitsTwo.f (k : Nat) (a0 : Int) (a1 : Int) (a2 : Int) (a3 : Int) : Option (Bool) := (bits_Bin.f k a0 a1 a2 a3).bind fun bt142 => ((cadenceref01_Bin.f k a0 a1 a2 a3).bind fun bt144 => (if bt142.1 = bt144.1 then (some (bt142.2 == bt144.2)) else (some false)))
theorem cadencelaw01_BitsTwo.mono : ∀ a0 a1 a2 a3 k, LeO (cadencelaw01_BitsTwo.f k a0 a1 a2 a3) (cadencelaw01_BitsTwo.f (k + 1) a0 a1 a2 a3) := by
  intro a0 a1 a2 a3 k
  unfold cadencelaw01_BitsTwo.f
  repeat' first
      | (with_reducible exact bits_Bin.mono _ _ _ _ _)
      | (with_reducible exact cadenceref01_Bin.mono _ _ _ _ _)
      | (with_reducible exact LeO.refl _)
      | (with_reducible exact LeO.none _)
      | (with_reducible refine LeO.ite ?_ ?_)
      | (with_reducible refine LeO.bind ?_ (fun _ => ?_))
      | exact bits_Bin.mono _ _ _ _ _
      | exact cadenceref01_Bin.mono _ _ _ _ _
      | exact LeO.none _
      | refine LeO.ite ?_ ?_
      | refine LeO.bind ?_ (fun _ => ?_)
set_option maxHeartbeats 8000000 in
set_option maxRecDepth 100000 in
theorem cadencelaw01_BitsTwo.calls (k : Nat) (a0 : Int) (a1 : Int) (a2 : Int) (a3 : Int) (r : Bool) (w : World) (h : cadencelaw01_BitsTwo.f k a0 a1 a2 a3 = some r) :
    Calls Try.prog 8 #[.int .i64 a0, .int .i64 a1, .int .u64 a2, .int .u64 a3] w fun e w' => e = .returned (.bool r) ∧ Below w.heap.size w w' := by
  have HB := Aside0.mk (Below.refl w.heap.size w)
  have H : ((bits_Bin.f k a0 a1 a2 a3).bind fun bt142 => ((cadenceref01_Bin.f k a0 a1 a2 a3).bind fun bt144 => (if bt142.1 = bt144.1 then (some (bt142.2 == bt144.2)) else (some false)))) = some r := h
  clear h
  replace H := Option.bind_eq_some_iff.mp H
  obtain ⟨⟨t142, t143⟩, A50, H⟩ := H
  replace H : ((cadenceref01_Bin.f k a0 a1 a2 a3).bind fun bt144 => (if t142 = bt144.1 then (some (t143 == bt144.2)) else (some false))) = some r := H
  have A5 := Aside0.mk A50
  clear A50
  replace H := Option.bind_eq_some_iff.mp H
  obtain ⟨⟨t144, t145⟩, A60, H⟩ := H
  replace H : (if t142 = t144 then (some (t143 == t145)) else (some false)) = some r := H
  have A6 := Aside0.mk A60
  clear A60
  by_cases c7 : t142 = t144
  · rw [if_pos c7] at H
    have c7b0 : (t142 == t144) = true := beq_iff_eq.mpr c7
    have c7b1 : (t142 != t144) = false := bne_eq_false_iff_eq.mpr c7
    clear c7
    obtain rfl := Option.some.inj H
    go_enter Try.func8, Try.ntmps8
    go_wp2_with (first | ((with_reducible refine gate_callee (f := 31) rfl ?_); refine goesL_ (some 18) rfl rfl Try.func31 (by kernel_rfl) rfl #[.int .i64 a0, .int .i64 a1, .int .u64 a2, .int .u64 a3] rfl (by (try simp only [List.map_toArray, List.map_cons, List.map_nil]); first | done | rfl | (simp only [List.length_drop, List.length_take]; rfl)) ?_; (with_reducible refine (bits_Bin.calls k a0 a1 a2 a3 t142 t143 _ A5.out).mono ?_); rintro e w' ⟨rfl, ⟨nd, rfl⟩⟩; refine ⟨_, rfl, ?_⟩) | ((with_reducible refine gate_callee (f := 32) rfl ?_); refine goesL_ (some 26) rfl rfl Try.func32 (by kernel_rfl) rfl #[.int .i64 a0, .int .i64 a1, .int .u64 a2, .int .u64 a3] rfl (by (try simp only [List.map_toArray, List.map_cons, List.map_nil]); first | done | rfl | (simp only [List.length_drop, List.length_take]; rfl)) ?_; (with_reducible refine (cadenceref01_Bin.calls k a0 a1 a2 a3 t144 t145 _ A6.out).mono ?_); rintro e w8 ⟨rfl, hb⟩; refine ⟨_, rfl, ?_⟩; have n0_ := Aside0.mk (below_step (by repeat (first | (with_reducible first | exact HB.out | apply below_alloc | apply pw_below_drewN | apply below_drew1) | exact HB.out)) hb); clear HB; have HB := n0_; clear n0_; (try clear hb); (try clear hb2); (try clear hk); (try clear hi)))
    go_ret
    exact ⟨by first | rfl | (simp [errW_none, errW_some] <;> rfl) | (simp [*, errW_none, errW_some] <;> rfl), by repeat (first | (with_reducible first | exact HB.out | apply below_alloc | apply pw_below_drewN | apply below_drew1) | exact HB.out)⟩
  · rw [if_neg c7] at H
    have c7b0 : (t142 == t144) = false := beq_eq_false_iff_ne.mpr c7
    have c7b1 : (t142 != t144) = true := bne_iff_ne.mpr c7
    obtain rfl := Option.some.inj H
    go_enter Try.func8, Try.ntmps8
    go_wp2_with (first | ((with_reducible refine gate_callee (f := 31) rfl ?_); refine goesL_ (some 18) rfl rfl Try.func31 (by kernel_rfl) rfl #[.int .i64 a0, .int .i64 a1, .int .u64 a2, .int .u64 a3] rfl (by (try simp only [List.map_toArray, List.map_cons, List.map_nil]); first | done | rfl | (simp only [List.length_drop, List.length_take]; rfl)) ?_; (with_reducible refine (bits_Bin.calls k a0 a1 a2 a3 t142 t143 _ A5.out).mono ?_); rintro e w' ⟨rfl, ⟨nd, rfl⟩⟩; refine ⟨_, rfl, ?_⟩) | ((with_reducible refine gate_callee (f := 32) rfl ?_); refine goesL_ (some 26) rfl rfl Try.func32 (by kernel_rfl) rfl #[.int .i64 a0, .int .i64 a1, .int .u64 a2, .int .u64 a3] rfl (by (try simp only [List.map_toArray, List.map_cons, List.map_nil]); first | done | rfl | (simp only [List.length_drop, List.length_take]; rfl)) ?_; (with_reducible refine (cadenceref01_Bin.calls k a0 a1 a2 a3 t144 t145 _ A6.out).mono ?_); rintro e w9 ⟨rfl, hb⟩; refine ⟨_, rfl, ?_⟩; have n0_ := Aside0.mk (below_step (by repeat (first | (with_reducible first | exact HB.out | apply below_alloc | apply pw_below_drewN | apply below_drew1) | exact HB.out)) hb); clear HB; have HB := n0_; clear n0_; (try clear hb); (try clear hb2); (try clear hk); (try clear hi)))
    go_ret
    exact ⟨by first | rfl | (simp [errW_none, errW_some] <;> rfl) | (simp [*, errW_none, errW_some] <;> rfl), by repeat (first | (with_reducible first | exact HB.out | apply below_alloc | apply pw_below_drewN | apply below_drew1) | exact HB.out)⟩

/-- THE ONE PURE STATEMENT of cadencelaw01_BitsTwo: yours. -/
def cadencelaw01_BitsTwo.Pure : Prop := ∀ (a0 : Int) (a1 : Int) (a2 : Int) (a3 : Int), (Lit.int .i64 a0).wf = true → (Lit.int .i64 a1).wf = true → (Lit.int .u64 a2).wf = true → (Lit.int .u64 a3).wf = true → ∃ k, cadencelaw01_BitsTwo.f k a0 a1 a2 a3 = some true
theorem cadencelaw01_BitsTwo.walk (P : cadencelaw01_BitsTwo.Pure) (a0 : Int) (a1 : Int) (a2 : Int) (a3 : Int) (w : World) (w0 : (Lit.int .i64 a0).wf = true) (w1 : (Lit.int .i64 a1).wf = true) (w2 : (Lit.int .u64 a2).wf = true) (w3 : (Lit.int .u64 a3).wf = true) :
    Calls Try.prog 8 #[.int .i64 a0, .int .i64 a1, .int .u64 a2, .int .u64 a3] w fun e w' => e = .returned (.bool true) ∧ Below w.heap.size w w' := by
  obtain ⟨k, h⟩ := P a0 a1 a2 a3 w0 w1 w2 w3
  refine (cadencelaw01_BitsTwo.calls k a0 a1 a2 a3 true w h).mono ?_
  rintro e w' ⟨rfl, hd⟩
  exact ⟨rfl, hd⟩

/-! ### cadencelaw01_BitsCompare: function 6 -/
def cadencelaw01_BitsCompare.f (k : Nat) (a0 : Int) (a1 : Int) (a2 : Int) (a3 : Int) : Option (Bool) := (bits_Cmp.f k a0 a1 a2 a3).bind fun bt117 => ((cadenceref01_Cmp.f k a0 a1 a2 a3).bind fun bt119 => (if (bt117.1 == bt119.1) = true then (some (bt117.2 == bt119.2)) else (some false)))
theorem cadencelaw01_BitsCompare.mono : ∀ a0 a1 a2 a3 k, LeO (cadencelaw01_BitsCompare.f k a0 a1 a2 a3) (cadencelaw01_BitsCompare.f (k + 1) a0 a1 a2 a3) := by
  intro a0 a1 a2 a3 k
  unfold cadencelaw01_BitsCompare.f
  repeat' first
      | (with_reducible exact bits_Cmp.mono _ _ _ _ _)
      | (with_reducible exact cadenceref01_Cmp.mono _ _ _ _ _)
      | (with_reducible exact LeO.refl _)
      | (with_reducible exact LeO.none _)
      | (with_reducible refine LeO.ite ?_ ?_)
      | (with_reducible refine LeO.bind ?_ (fun _ => ?_))
      | exact bits_Cmp.mono _ _ _ _ _
      | exact cadenceref01_Cmp.mono _ _ _ _ _
      | exact LeO.none _
      | refine LeO.ite ?_ ?_
      | refine LeO.bind ?_ (fun _ => ?_)
set_option maxHeartbeats 8000000 in
set_option maxRecDepth 100000 in
theorem cadencelaw01_BitsCompare.calls (k : Nat) (a0 : Int) (a1 : Int) (a2 : Int) (a3 : Int) (r : Bool) (w : World) (h : cadencelaw01_BitsCompare.f k a0 a1 a2 a3 = some r) :
    Calls Try.prog 6 #[.int .i64 a0, .int .i64 a1, .int .u64 a2, .int .u64 a3] w fun e w' => e = .returned (.bool r) ∧ Drawn0 w w' := by
  have H : ((bits_Cmp.f k a0 a1 a2 a3).bind fun bt117 => ((cadenceref01_Cmp.f k a0 a1 a2 a3).bind fun bt119 => (if (bt117.1 == bt119.1) = true then (some (bt117.2 == bt119.2)) else (some false)))) = some r := h
  clear h
  replace H := Option.bind_eq_some_iff.mp H
  obtain ⟨⟨t117, t118⟩, A50, H⟩ := H
  replace H : ((cadenceref01_Cmp.f k a0 a1 a2 a3).bind fun bt119 => (if (t117 == bt119.1) = true then (some (t118 == bt119.2)) else (some false))) = some r := H
  have A5 := Aside0.mk A50
  clear A50
  replace H := Option.bind_eq_some_iff.mp H
  obtain ⟨⟨t119, t120⟩, A60, H⟩ := H
  replace H : (if (t117 == t119) = true then (some (t118 == t120)) else (some false)) = some r := H
  have A6 := Aside0.mk A60
  clear A60
  by_cases c7 : (t117 == t119) = true
  · rw [if_pos c7] at H
    have c7b0 : (t117 == t119) = true := c7
    (try (have c7b1 : decide (t117 = t119) = true := by simpa using c7))
    (try (have c7b2 : (t117 == t119) = true := by simpa using c7))
    clear c7
    obtain rfl := Option.some.inj H
    go_enter Try.func6, Try.ntmps6
    go_wp2_with (first | ((with_reducible refine gate_callee (f := 23) rfl ?_); refine goesL_ (some 18) rfl rfl Try.func23 (by kernel_rfl) rfl #[.int .i64 a0, .int .i64 a1, .int .u64 a2, .int .u64 a3] rfl (by (try simp only [List.map_toArray, List.map_cons, List.map_nil]); first | done | rfl | (simp only [List.length_drop, List.length_take]; rfl)) ?_; (with_reducible refine (bits_Cmp.calls k a0 a1 a2 a3 t117 t118 _ A5.out).mono ?_); rintro e w' ⟨rfl, ⟨nd, rfl⟩⟩; refine ⟨_, rfl, ?_⟩) | ((with_reducible refine gate_callee (f := 24) rfl ?_); refine goesL_ (some 26) rfl rfl Try.func24 (by kernel_rfl) rfl #[.int .i64 a0, .int .i64 a1, .int .u64 a2, .int .u64 a3] rfl (by (try simp only [List.map_toArray, List.map_cons, List.map_nil]); first | done | rfl | (simp only [List.length_drop, List.length_take]; rfl)) ?_; (with_reducible refine (cadenceref01_Cmp.calls k a0 a1 a2 a3 t119 t120 _ A6.out).mono ?_); rintro e w' ⟨rfl, ⟨nd, rfl⟩⟩; refine ⟨_, rfl, ?_⟩))
    go_ret
    exact ⟨by first | rfl | (simp; done) | (simp [*]; done), by repeat (first | exact Drawn0.refl _ | apply Drawn0.step)⟩
  · rw [if_neg c7] at H
    have c7b0 : (t117 == t119) = false := by simpa using c7
    (try (have c7b1 : decide (t117 = t119) = false := by simpa using c7))
    (try (have c7b2 : (t117 == t119) = false := by simpa using c7))
    (try (have c7b3 : ¬ (t117 = t119) := by simpa using c7))
    clear c7
    obtain rfl := Option.some.inj H
    go_enter Try.func6, Try.ntmps6
    go_wp2_with (first | ((with_reducible refine gate_callee (f := 23) rfl ?_); refine goesL_ (some 18) rfl rfl Try.func23 (by kernel_rfl) rfl #[.int .i64 a0, .int .i64 a1, .int .u64 a2, .int .u64 a3] rfl (by (try simp only [List.map_toArray, List.map_cons, List.map_nil]); first | done | rfl | (simp only [List.length_drop, List.length_take]; rfl)) ?_; (with_reducible refine (bits_Cmp.calls k a0 a1 a2 a3 t117 t118 _ A5.out).mono ?_); rintro e w' ⟨rfl, ⟨nd, rfl⟩⟩; refine ⟨_, rfl, ?_⟩) | ((with_reducible refine gate_callee (f := 24) rfl ?_); refine goesL_ (some 26) rfl rfl Try.func24 (by kernel_rfl) rfl #[.int .i64 a0, .int .i64 a1, .int .u64 a2, .int .u64 a3] rfl (by (try simp only [List.map_toArray, List.map_cons, List.map_nil]); first | done | rfl | (simp only [List.length_drop, List.length_take]; rfl)) ?_; (with_reducible refine (cadenceref01_Cmp.calls k a0 a1 a2 a3 t119 t120 _ A6.out).mono ?_); rintro e w' ⟨rfl, ⟨nd, rfl⟩⟩; refine ⟨_, rfl, ?_⟩))
    go_ret
    exact ⟨by first | rfl | (simp; done) | (simp [*]; done), by repeat (first | exact Drawn0.refl _ | apply Drawn0.step)⟩

/-- THE ONE PURE STATEMENT of cadencelaw01_BitsCompare: yours. -/
def cadencelaw01_BitsCompare.Pure : Prop := ∀ (a0 : Int) (a1 : Int) (a2 : Int) (a3 : Int), (Lit.int .i64 a0).wf = true → (Lit.int .i64 a1).wf = true → (Lit.int .u64 a2).wf = true → (Lit.int .u64 a3).wf = true → ∃ k, cadencelaw01_BitsCompare.f k a0 a1 a2 a3 = some true
theorem cadencelaw01_BitsCompare.walk (P : cadencelaw01_BitsCompare.Pure) (a0 : Int) (a1 : Int) (a2 : Int) (a3 : Int) (w : World) (w0 : (Lit.int .i64 a0).wf = true) (w1 : (Lit.int .i64 a1).wf = true) (w2 : (Lit.int .u64 a2).wf = true) (w3 : (Lit.int .u64 a3).wf = true) :
    Calls Try.prog 6 #[.int .i64 a0, .int .i64 a1, .int .u64 a2, .int .u64 a3] w fun e w' => e = .returned (.bool true) ∧ Below w.heap.size w w' := by
  obtain ⟨k, h⟩ := P a0 a1 a2 a3 w0 w1 w2 w3
  refine (cadencelaw01_BitsCompare.calls k a0 a1 a2 a3 true w h).mono ?_
  rintro e w' ⟨rfl, hd⟩
  exact ⟨rfl, hd.below⟩

/-! ### cadencelaw01_BitsParts: function 7 -/
mutual
def cadencelaw01_BitsParts.j0 : Nat → Int → Int → Int → Int → Int → Int → Bool → Option (Bool)
  | 0, _, _, _, _, _, _, _ => none
  | k + 1, x0, x1, x2, x3, x5, x6, x42 => if x42 = true then (some false) else ((bits_Slice.f k x1 x3 x5 x6).bind fun bt133 => ((cadenceref01_Slice.f k x1 x3 x5 x6).bind fun bt135 => (if bt133.1 = bt135.1 then (cadencelaw01_BitsParts.j1 k x0 x1 x2 x3 (bt133.2 != bt135.2)) else (cadencelaw01_BitsParts.j1 k x0 x1 x2 x3 true))))
def cadencelaw01_BitsParts.j1 : Nat → Int → Int → Int → Int → Bool → Option (Bool)
  | 0, _, _, _, _, _ => none
  | k + 1, x0, x1, x2, x3, x66 => if x66 = true then (some false) else ((bits_Ext.f k x0 x1 x3 x2).bind fun bt137 => ((cadenceref01_Ext.f k x0 x1 x3 x2).bind fun bt139 => (if bt137.1 = bt139.1 then (some (bt137.2 == bt139.2)) else (some false))))
end
def cadencelaw01_BitsParts.f (k : Nat) (a0 : Int) (a1 : Int) (a2 : Int) (a3 : Int) (a4 : Int) (a5 : Int) (a6 : Int) : Option (Bool) := (bits_Cat.f k a1 a3 a2 a4).bind fun bt129 => ((cadenceref01_Cat.f k a1 a3 a2 a4).bind fun bt131 => (if bt129.1 = bt131.1 then (cadencelaw01_BitsParts.j0 k a0 a1 a2 a3 a5 a6 (bt129.2 != bt131.2)) else (cadencelaw01_BitsParts.j0 k a0 a1 a2 a3 a5 a6 true)))
theorem cadencelaw01_BitsParts.mono_l : ∀ k, (∀ y0 y1 y2 y3 y4 y5 y6, LeO (cadencelaw01_BitsParts.j0 k y0 y1 y2 y3 y4 y5 y6) (cadencelaw01_BitsParts.j0 (k + 1) y0 y1 y2 y3 y4 y5 y6)) ∧ (∀ y0 y1 y2 y3 y4, LeO (cadencelaw01_BitsParts.j1 k y0 y1 y2 y3 y4) (cadencelaw01_BitsParts.j1 (k + 1) y0 y1 y2 y3 y4))
  | 0 => ⟨fun _ _ _ _ _ _ _ r h => by simp [cadencelaw01_BitsParts.j0] at h, fun _ _ _ _ _ r h => by simp [cadencelaw01_BitsParts.j1] at h⟩
  | k + 1 => by
    obtain ⟨ih0, ih1⟩ := cadencelaw01_BitsParts.mono_l k
    refine ⟨?_, ?_⟩
    · intro y0 y1 y2 y3 y4 y5 y6
      unfold cadencelaw01_BitsParts.j0
      repeat' first
      | (with_reducible exact ih0 _ _ _ _ _ _ _)
      | (with_reducible exact ih1 _ _ _ _ _)
      | (with_reducible exact bits_Cat.mono _ _ _ _ _)
      | (with_reducible exact bits_Ext.mono _ _ _ _ _)
      | (with_reducible exact bits_Slice.mono _ _ _ _ _)
      | (with_reducible exact cadenceref01_Cat.mono _ _ _ _ _)
      | (with_reducible exact cadenceref01_Ext.mono _ _ _ _ _)
      | (with_reducible exact cadenceref01_Slice.mono _ _ _ _ _)
      | (with_reducible exact LeO.refl _)
      | (with_reducible exact LeO.none _)
      | (with_reducible refine LeO.ite ?_ ?_)
      | (with_reducible refine LeO.bind ?_ (fun _ => ?_))
      | exact ih0 _ _ _ _ _ _ _
      | exact ih1 _ _ _ _ _
      | exact bits_Cat.mono _ _ _ _ _
      | exact bits_Ext.mono _ _ _ _ _
      | exact bits_Slice.mono _ _ _ _ _
      | exact cadenceref01_Cat.mono _ _ _ _ _
      | exact cadenceref01_Ext.mono _ _ _ _ _
      | exact cadenceref01_Slice.mono _ _ _ _ _
      | exact LeO.none _
      | refine LeO.ite ?_ ?_
      | refine LeO.bind ?_ (fun _ => ?_)
    · intro y0 y1 y2 y3 y4
      unfold cadencelaw01_BitsParts.j1
      repeat' first
      | (with_reducible exact ih0 _ _ _ _ _ _ _)
      | (with_reducible exact ih1 _ _ _ _ _)
      | (with_reducible exact bits_Cat.mono _ _ _ _ _)
      | (with_reducible exact bits_Ext.mono _ _ _ _ _)
      | (with_reducible exact bits_Slice.mono _ _ _ _ _)
      | (with_reducible exact cadenceref01_Cat.mono _ _ _ _ _)
      | (with_reducible exact cadenceref01_Ext.mono _ _ _ _ _)
      | (with_reducible exact cadenceref01_Slice.mono _ _ _ _ _)
      | (with_reducible exact LeO.refl _)
      | (with_reducible exact LeO.none _)
      | (with_reducible refine LeO.ite ?_ ?_)
      | (with_reducible refine LeO.bind ?_ (fun _ => ?_))
      | exact ih0 _ _ _ _ _ _ _
      | exact ih1 _ _ _ _ _
      | exact bits_Cat.mono _ _ _ _ _
      | exact bits_Ext.mono _ _ _ _ _
      | exact bits_Slice.mono _ _ _ _ _
      | exact cadenceref01_Cat.mono _ _ _ _ _
      | exact cadenceref01_Ext.mono _ _ _ _ _
      | exact cadenceref01_Slice.mono _ _ _ _ _
      | exact LeO.none _
      | refine LeO.ite ?_ ?_
      | refine LeO.bind ?_ (fun _ => ?_)
theorem cadencelaw01_BitsParts.mono : ∀ a0 a1 a2 a3 a4 a5 a6 k, LeO (cadencelaw01_BitsParts.f k a0 a1 a2 a3 a4 a5 a6) (cadencelaw01_BitsParts.f (k + 1) a0 a1 a2 a3 a4 a5 a6) := by
  intro a0 a1 a2 a3 a4 a5 a6 k
  obtain ⟨ih0, ih1⟩ := cadencelaw01_BitsParts.mono_l k
  unfold cadencelaw01_BitsParts.f
  repeat' first
      | (with_reducible exact ih0 _ _ _ _ _ _ _)
      | (with_reducible exact ih1 _ _ _ _ _)
      | (with_reducible exact bits_Cat.mono _ _ _ _ _)
      | (with_reducible exact bits_Ext.mono _ _ _ _ _)
      | (with_reducible exact bits_Slice.mono _ _ _ _ _)
      | (with_reducible exact cadenceref01_Cat.mono _ _ _ _ _)
      | (with_reducible exact cadenceref01_Ext.mono _ _ _ _ _)
      | (with_reducible exact cadenceref01_Slice.mono _ _ _ _ _)
      | (with_reducible exact LeO.refl _)
      | (with_reducible exact LeO.none _)
      | (with_reducible refine LeO.ite ?_ ?_)
      | (with_reducible refine LeO.bind ?_ (fun _ => ?_))
      | exact ih0 _ _ _ _ _ _ _
      | exact ih1 _ _ _ _ _
      | exact bits_Cat.mono _ _ _ _ _
      | exact bits_Ext.mono _ _ _ _ _
      | exact bits_Slice.mono _ _ _ _ _
      | exact cadenceref01_Cat.mono _ _ _ _ _
      | exact cadenceref01_Ext.mono _ _ _ _ _
      | exact cadenceref01_Slice.mono _ _ _ _ _
      | exact LeO.none _
      | refine LeO.ite ?_ ?_
      | refine LeO.bind ?_ (fun _ => ?_)
set_option maxHeartbeats 8000000 in
set_option maxRecDepth 100000 in
theorem cadencelaw01_BitsParts.calls (k : Nat) (a0 : Int) (a1 : Int) (a2 : Int) (a3 : Int) (a4 : Int) (a5 : Int) (a6 : Int) (r : Bool) (w : World) (h : cadencelaw01_BitsParts.f k a0 a1 a2 a3 a4 a5 a6 = some r) :
    Calls Try.prog 7 #[.int .i64 a0, .int .i64 a1, .int .i64 a2, .int .u64 a3, .int .u64 a4, .int .i64 a5, .int .i64 a6] w fun e w' => e = .returned (.bool r) ∧ Drawn0 w w' := by
  have H : ((bits_Cat.f k a1 a3 a2 a4).bind fun bt129 => ((cadenceref01_Cat.f k a1 a3 a2 a4).bind fun bt131 => (if bt129.1 = bt131.1 then (cadencelaw01_BitsParts.j0 k a0 a1 a2 a3 a5 a6 (bt129.2 != bt131.2)) else (cadencelaw01_BitsParts.j0 k a0 a1 a2 a3 a5 a6 true)))) = some r := h
  clear h
  replace H := Option.bind_eq_some_iff.mp H
  obtain ⟨⟨t129, t130⟩, A80, H⟩ := H
  replace H : ((cadenceref01_Cat.f k a1 a3 a2 a4).bind fun bt131 => (if t129 = bt131.1 then (cadencelaw01_BitsParts.j0 k a0 a1 a2 a3 a5 a6 (t130 != bt131.2)) else (cadencelaw01_BitsParts.j0 k a0 a1 a2 a3 a5 a6 true))) = some r := H
  have A8 := Aside0.mk A80
  clear A80
  replace H := Option.bind_eq_some_iff.mp H
  obtain ⟨⟨t131, t132⟩, A90, H⟩ := H
  replace H : (if t129 = t131 then (cadencelaw01_BitsParts.j0 k a0 a1 a2 a3 a5 a6 (t130 != t132)) else (cadencelaw01_BitsParts.j0 k a0 a1 a2 a3 a5 a6 true)) = some r := H
  have A9 := Aside0.mk A90
  clear A90
  have HC10 := Aside0.mk H
  clear H
  go_enter Try.func7, Try.ntmps7
  go_upto_region 3 with (first | ((with_reducible refine gate_callee (f := 25) rfl ?_); refine goesL_ (some 24) rfl rfl Try.func25 (by kernel_rfl) rfl #[.int .i64 a1, .int .u64 a3, .int .i64 a2, .int .u64 a4] rfl (by (try simp only [List.map_toArray, List.map_cons, List.map_nil]); first | done | rfl | (simp only [List.length_drop, List.length_take]; rfl)) ?_; (with_reducible refine (bits_Cat.calls k a1 a3 a2 a4 t129 t130 _ A8.out).mono ?_); rintro e w' ⟨rfl, ⟨nd, rfl⟩⟩; refine ⟨_, rfl, ?_⟩) | ((with_reducible refine gate_callee (f := 26) rfl ?_); refine goesL_ (some 32) rfl rfl Try.func26 (by kernel_rfl) rfl #[.int .i64 a1, .int .u64 a3, .int .i64 a2, .int .u64 a4] rfl (by (try simp only [List.map_toArray, List.map_cons, List.map_nil]); first | done | rfl | (simp only [List.length_drop, List.length_take]; rfl)) ?_; (with_reducible refine (cadenceref01_Cat.calls k a1 a3 a2 a4 t131 t132 _ A9.out).mono ?_); rintro e w' ⟨rfl, ⟨nd, rfl⟩⟩; refine ⟨_, rfl, ?_⟩))
  (try simp only [Act.put, List.setIfInBounds_toArray, List.set_cons_zero, List.set_cons_succ])
  go_cut [42] (fun v42 wc => ∃ (kq : Nat) (x42_9 : Bool), v42 = .bool x42_9 ∧ Aside0 (cadencelaw01_BitsParts.j0 kq a0 a1 a2 a3 a5 a6 x42_9 = some r) ∧ Aside0 (kq ≤ k) ∧ Drawn0 w wc)
  case first =>
    have H := HC10.out
    clear HC10
    by_cases c11 : t129 = t131
    · rw [if_pos c11] at H
      have c11b0 : (t129 == t131) = true := beq_iff_eq.mpr c11
      have c11b1 : (t129 != t131) = false := bne_eq_false_iff_eq.mpr c11
      clear c11
      (first | rw [c11b0] | (simp only [i64_w, i32_w]; rw [c11b0]) | skip)
      have H' := Aside0.mk H
      clear H
      go_wp2
      go_meet
      case rel => exact ⟨_, ((t130 != t132)), (by first | rfl | (simp; done) | (simp [*]; done)), H', ⟨by first | omega | exact Nat.le_refl _⟩, by repeat (first | exact Drawn0.refl _ | apply Drawn0.step)⟩
    · rw [if_neg c11] at H
      have c11b0 : (t129 == t131) = false := beq_eq_false_iff_ne.mpr c11
      have c11b1 : (t129 != t131) = true := bne_iff_ne.mpr c11
      (first | rw [c11b0] | (simp only [i64_w, i32_w]; rw [c11b0]) | skip)
      have H' := Aside0.mk H
      clear H
      go_wp2
      go_meet
      case rel => exact ⟨_, (true), (by first | rfl | (simp; done) | (simp [*]; done)), H', ⟨by first | omega | exact Nat.le_refl _⟩, by repeat (first | exact Drawn0.refl _ | apply Drawn0.step)⟩
  case rest =>
    clear HC10
    try clear c1
    try clear c2
    try clear p2
    try clear c7
    try clear c11
    try clear c11b0
    try clear c11b1
    obtain ⟨kq, x42_9, rfl, HA, HJ9, ⟨mc9, rfl⟩⟩ := hcut
    cases kq with
    | zero => exact absurd HA.out (by simp [cadencelaw01_BitsParts.j0])
    | succ kj9 =>
      have H := HA.out
      clear HA
      simp only [cadencelaw01_BitsParts.j0] at H
      by_cases c12 : x42_9 = true
      · subst c12
        have H1 : (some false) = some r := by rw [if_pos rfl] at H; exact H
        clear H
        have H := H1
        clear H1
        obtain rfl := Option.some.inj H
        go_wp2
        go_ret
        exact ⟨by first | rfl | (simp; done) | (simp [*]; done), by repeat (first | exact Drawn0.refl _ | apply Drawn0.step)⟩
      · replace c12 := Bool.eq_false_iff.mpr c12
        subst c12
        have H1 : ((bits_Slice.f kj9 a1 a3 a5 a6).bind fun bt133 => ((cadenceref01_Slice.f kj9 a1 a3 a5 a6).bind fun bt135 => (if bt133.1 = bt135.1 then (cadencelaw01_BitsParts.j1 kj9 a0 a1 a2 a3 (bt133.2 != bt135.2)) else (cadencelaw01_BitsParts.j1 kj9 a0 a1 a2 a3 true)))) = some r := by rw [if_neg (show ¬ (false = true) by decide)] at H; exact H
        clear H
        have H := H1
        clear H1
        replace H := Option.bind_eq_some_iff.mp H
        obtain ⟨⟨t133, t134⟩, A130, H⟩ := H
        replace H : ((cadenceref01_Slice.f kj9 a1 a3 a5 a6).bind fun bt135 => (if t133 = bt135.1 then (cadencelaw01_BitsParts.j1 kj9 a0 a1 a2 a3 (t134 != bt135.2)) else (cadencelaw01_BitsParts.j1 kj9 a0 a1 a2 a3 true))) = some r := H
        have A13 := Aside0.mk A130
        clear A130
        replace H := Option.bind_eq_some_iff.mp H
        obtain ⟨⟨t135, t136⟩, A140, H⟩ := H
        replace H : (if t133 = t135 then (cadencelaw01_BitsParts.j1 kj9 a0 a1 a2 a3 (t134 != t136)) else (cadencelaw01_BitsParts.j1 kj9 a0 a1 a2 a3 true)) = some r := H
        have A14 := Aside0.mk A140
        clear A140
        have HC15 := Aside0.mk H
        clear H
        go_upto_region 7 with (first | ((with_reducible refine gate_callee (f := 27) rfl ?_); refine goesL_ (some 48) rfl rfl Try.func27 (by kernel_rfl) rfl #[.int .i64 a1, .int .u64 a3, .int .i64 a5, .int .i64 a6] rfl (by (try simp only [List.map_toArray, List.map_cons, List.map_nil]); first | done | rfl | (simp only [List.length_drop, List.length_take]; rfl)) ?_; (with_reducible refine (bits_Slice.calls kj9 a1 a3 a5 a6 t133 t134 _ A13.out).mono ?_); rintro e w' ⟨rfl, ⟨nd, rfl⟩⟩; refine ⟨_, rfl, ?_⟩) | ((with_reducible refine gate_callee (f := 28) rfl ?_); refine goesL_ (some 56) rfl rfl Try.func28 (by kernel_rfl) rfl #[.int .i64 a1, .int .u64 a3, .int .i64 a5, .int .i64 a6] rfl (by (try simp only [List.map_toArray, List.map_cons, List.map_nil]); first | done | rfl | (simp only [List.length_drop, List.length_take]; rfl)) ?_; (with_reducible refine (cadenceref01_Slice.calls kj9 a1 a3 a5 a6 t135 t136 _ A14.out).mono ?_); rintro e w' ⟨rfl, ⟨nd, rfl⟩⟩; refine ⟨_, rfl, ?_⟩))
        (try simp only [Act.put, List.setIfInBounds_toArray, List.set_cons_zero, List.set_cons_succ])
        go_cut [66] (fun v66 wc => ∃ (kq : Nat) (x66_14 : Bool), v66 = .bool x66_14 ∧ Aside0 (cadencelaw01_BitsParts.j1 kq a0 a1 a2 a3 x66_14 = some r) ∧ Aside0 (kq ≤ kj9) ∧ Drawn0 w wc)
        case first =>
          have H := HC15.out
          clear HC15
          by_cases c16 : t133 = t135
          · rw [if_pos c16] at H
            have c16b0 : (t133 == t135) = true := beq_iff_eq.mpr c16
            have c16b1 : (t133 != t135) = false := bne_eq_false_iff_eq.mpr c16
            clear c16
            (first | rw [c16b0] | (simp only [i64_w, i32_w]; rw [c16b0]) | skip)
            have H' := Aside0.mk H
            clear H
            go_wp2
            go_meet
            case rel => exact ⟨_, ((t134 != t136)), (by first | rfl | (simp; done) | (simp [*]; done)), H', ⟨by have := HJ9.out; first | omega | exact Nat.le_refl _⟩, by repeat (first | exact Drawn0.refl _ | apply Drawn0.step)⟩
          · rw [if_neg c16] at H
            have c16b0 : (t133 == t135) = false := beq_eq_false_iff_ne.mpr c16
            have c16b1 : (t133 != t135) = true := bne_iff_ne.mpr c16
            (first | rw [c16b0] | (simp only [i64_w, i32_w]; rw [c16b0]) | skip)
            have H' := Aside0.mk H
            clear H
            go_wp2
            go_meet
            case rel => exact ⟨_, (true), (by first | rfl | (simp; done) | (simp [*]; done)), H', ⟨by have := HJ9.out; first | omega | exact Nat.le_refl _⟩, by repeat (first | exact Drawn0.refl _ | apply Drawn0.step)⟩
        case rest =>
          clear HC15
          try clear c1
          try clear c2
          try clear p2
          try clear c7
          try clear c9
          try clear c11
          try clear c11b0
          try clear c11b1
          try clear c12
          try clear c16
          try clear c16b0
          try clear c16b1
          try clear p2
          obtain ⟨kq, x66_14, rfl, HA, HJ14, ⟨mc14, rfl⟩⟩ := hcut
          cases kq with
          | zero => exact absurd HA.out (by simp [cadencelaw01_BitsParts.j1])
          | succ kj14 =>
            have H := HA.out
            clear HA
            simp only [cadencelaw01_BitsParts.j1] at H
            by_cases c17 : x66_14 = true
            · subst c17
              have H1 : (some false) = some r := by rw [if_pos rfl] at H; exact H
              clear H
              have H := H1
              clear H1
              obtain rfl := Option.some.inj H
              go_wp2
              go_ret
              exact ⟨by first | rfl | (simp; done) | (simp [*]; done), by repeat (first | exact Drawn0.refl _ | apply Drawn0.step)⟩
            · replace c17 := Bool.eq_false_iff.mpr c17
              subst c17
              have H1 : ((bits_Ext.f kj14 a0 a1 a3 a2).bind fun bt137 => ((cadenceref01_Ext.f kj14 a0 a1 a3 a2).bind fun bt139 => (if bt137.1 = bt139.1 then (some (bt137.2 == bt139.2)) else (some false)))) = some r := by rw [if_neg (show ¬ (false = true) by decide)] at H; exact H
              clear H
              have H := H1
              clear H1
              replace H := Option.bind_eq_some_iff.mp H
              obtain ⟨⟨t137, t138⟩, A180, H⟩ := H
              replace H : ((cadenceref01_Ext.f kj14 a0 a1 a3 a2).bind fun bt139 => (if t137 = bt139.1 then (some (t138 == bt139.2)) else (some false))) = some r := H
              have A18 := Aside0.mk A180
              clear A180
              replace H := Option.bind_eq_some_iff.mp H
              obtain ⟨⟨t139, t140⟩, A190, H⟩ := H
              replace H : (if t137 = t139 then (some (t138 == t140)) else (some false)) = some r := H
              have A19 := Aside0.mk A190
              clear A190
              by_cases c20 : t137 = t139
              · rw [if_pos c20] at H
                have c20b0 : (t137 == t139) = true := beq_iff_eq.mpr c20
                have c20b1 : (t137 != t139) = false := bne_eq_false_iff_eq.mpr c20
                clear c20
                obtain rfl := Option.some.inj H
                go_wp2_with (first | ((with_reducible refine gate_callee (f := 29) rfl ?_); refine goesL_ (some 72) rfl rfl Try.func29 (by kernel_rfl) rfl #[.int .i64 a0, .int .i64 a1, .int .u64 a3, .int .i64 a2] rfl (by (try simp only [List.map_toArray, List.map_cons, List.map_nil]); first | done | rfl | (simp only [List.length_drop, List.length_take]; rfl)) ?_; (with_reducible refine (bits_Ext.calls kj14 a0 a1 a3 a2 t137 t138 _ A18.out).mono ?_); rintro e w' ⟨rfl, ⟨nd, rfl⟩⟩; refine ⟨_, rfl, ?_⟩) | ((with_reducible refine gate_callee (f := 30) rfl ?_); refine goesL_ (some 80) rfl rfl Try.func30 (by kernel_rfl) rfl #[.int .i64 a0, .int .i64 a1, .int .u64 a3, .int .i64 a2] rfl (by (try simp only [List.map_toArray, List.map_cons, List.map_nil]); first | done | rfl | (simp only [List.length_drop, List.length_take]; rfl)) ?_; (with_reducible refine (cadenceref01_Ext.calls kj14 a0 a1 a3 a2 t139 t140 _ A19.out).mono ?_); rintro e w' ⟨rfl, ⟨nd, rfl⟩⟩; refine ⟨_, rfl, ?_⟩))
                go_ret
                exact ⟨by first | rfl | (simp; done) | (simp [*]; done), by repeat (first | exact Drawn0.refl _ | apply Drawn0.step)⟩
              · rw [if_neg c20] at H
                have c20b0 : (t137 == t139) = false := beq_eq_false_iff_ne.mpr c20
                have c20b1 : (t137 != t139) = true := bne_iff_ne.mpr c20
                obtain rfl := Option.some.inj H
                go_wp2_with (first | ((with_reducible refine gate_callee (f := 29) rfl ?_); refine goesL_ (some 72) rfl rfl Try.func29 (by kernel_rfl) rfl #[.int .i64 a0, .int .i64 a1, .int .u64 a3, .int .i64 a2] rfl (by (try simp only [List.map_toArray, List.map_cons, List.map_nil]); first | done | rfl | (simp only [List.length_drop, List.length_take]; rfl)) ?_; (with_reducible refine (bits_Ext.calls kj14 a0 a1 a3 a2 t137 t138 _ A18.out).mono ?_); rintro e w' ⟨rfl, ⟨nd, rfl⟩⟩; refine ⟨_, rfl, ?_⟩) | ((with_reducible refine gate_callee (f := 30) rfl ?_); refine goesL_ (some 80) rfl rfl Try.func30 (by kernel_rfl) rfl #[.int .i64 a0, .int .i64 a1, .int .u64 a3, .int .i64 a2] rfl (by (try simp only [List.map_toArray, List.map_cons, List.map_nil]); first | done | rfl | (simp only [List.length_drop, List.length_take]; rfl)) ?_; (with_reducible refine (cadenceref01_Ext.calls kj14 a0 a1 a3 a2 t139 t140 _ A19.out).mono ?_); rintro e w' ⟨rfl, ⟨nd, rfl⟩⟩; refine ⟨_, rfl, ?_⟩))
                go_ret
                exact ⟨by first | rfl | (simp; done) | (simp [*]; done), by repeat (first | exact Drawn0.refl _ | apply Drawn0.step)⟩

/-- THE ONE PURE STATEMENT of cadencelaw01_BitsParts: yours. -/
def cadencelaw01_BitsParts.Pure : Prop := ∀ (a0 : Int) (a1 : Int) (a2 : Int) (a3 : Int) (a4 : Int) (a5 : Int) (a6 : Int), (Lit.int .i64 a0).wf = true → (Lit.int .i64 a1).wf = true → (Lit.int .i64 a2).wf = true → (Lit.int .u64 a3).wf = true → (Lit.int .u64 a4).wf = true → (Lit.int .i64 a5).wf = true → (Lit.int .i64 a6).wf = true → ∃ k, cadencelaw01_BitsParts.f k a0 a1 a2 a3 a4 a5 a6 = some true
theorem cadencelaw01_BitsParts.walk (P : cadencelaw01_BitsParts.Pure) (a0 : Int) (a1 : Int) (a2 : Int) (a3 : Int) (a4 : Int) (a5 : Int) (a6 : Int) (w : World) (w0 : (Lit.int .i64 a0).wf = true) (w1 : (Lit.int .i64 a1).wf = true) (w2 : (Lit.int .i64 a2).wf = true) (w3 : (Lit.int .u64 a3).wf = true) (w4 : (Lit.int .u64 a4).wf = true) (w5 : (Lit.int .i64 a5).wf = true) (w6 : (Lit.int .i64 a6).wf = true) :
    Calls Try.prog 7 #[.int .i64 a0, .int .i64 a1, .int .i64 a2, .int .u64 a3, .int .u64 a4, .int .i64 a5, .int .i64 a6] w fun e w' => e = .returned (.bool true) ∧ Below w.heap.size w w' := by
  obtain ⟨k, h⟩ := P a0 a1 a2 a3 a4 a5 a6 w0 w1 w2 w3 w4 w5 w6
  refine (cadencelaw01_BitsParts.calls k a0 a1 a2 a3 a4 a5 a6 true w h).mono ?_
  rintro e w' ⟨rfl, hd⟩
  exact ⟨rfl, hd.below⟩

/-! ### cadencelaw01_BitsWidths: function 4 -/
def cadencelaw01_BitsWidths.f (a0 : Int) (a1 : Int) : Option (Bool) := (bits_Right.f a0).bind fun t105 => ((cadenceref01_Right.f a0).bind fun t106 => (if (t105 == t106) = true then ((bits_Trim.f a0 a1).bind fun t107 => ((cadenceref01_Trim.f a0 a1).bind fun t108 => (if t107 = t108 then ((bits_Signed.f a0 a1).bind fun t109 => ((cadenceref01_Signed.f a0 a1).bind fun t110 => (some (t109 == t110)))) else (some false)))) else (some false)))
set_option maxHeartbeats 8000000 in
set_option maxRecDepth 100000 in
theorem cadencelaw01_BitsWidths.calls (a0 : Int) (a1 : Int) (r : Bool) (w : World) (h : cadencelaw01_BitsWidths.f a0 a1 = some r) :
    Calls Try.prog 4 #[.int .i64 a0, .int .u64 a1] w fun e w' => e = .returned (.bool r) ∧ Drawn0 w w' := by
  have H : ((bits_Right.f a0).bind fun t105 => ((cadenceref01_Right.f a0).bind fun t106 => (if (t105 == t106) = true then ((bits_Trim.f a0 a1).bind fun t107 => ((cadenceref01_Trim.f a0 a1).bind fun t108 => (if t107 = t108 then ((bits_Signed.f a0 a1).bind fun t109 => ((cadenceref01_Signed.f a0 a1).bind fun t110 => (some (t109 == t110)))) else (some false)))) else (some false)))) = some r := h
  clear h
  replace H := Option.bind_eq_some_iff.mp H
  obtain ⟨t105, A30, H⟩ := H
  replace H : ((cadenceref01_Right.f a0).bind fun t106 => (if (t105 == t106) = true then ((bits_Trim.f a0 a1).bind fun t107 => ((cadenceref01_Trim.f a0 a1).bind fun t108 => (if t107 = t108 then ((bits_Signed.f a0 a1).bind fun t109 => ((cadenceref01_Signed.f a0 a1).bind fun t110 => (some (t109 == t110)))) else (some false)))) else (some false))) = some r := H
  have A3 := Aside0.mk A30
  clear A30
  replace H := Option.bind_eq_some_iff.mp H
  obtain ⟨t106, A40, H⟩ := H
  replace H : (if (t105 == t106) = true then ((bits_Trim.f a0 a1).bind fun t107 => ((cadenceref01_Trim.f a0 a1).bind fun t108 => (if t107 = t108 then ((bits_Signed.f a0 a1).bind fun t109 => ((cadenceref01_Signed.f a0 a1).bind fun t110 => (some (t109 == t110)))) else (some false)))) else (some false)) = some r := H
  have A4 := Aside0.mk A40
  clear A40
  by_cases c5 : (t105 == t106) = true
  · rw [if_pos c5] at H
    have c5b0 : (t105 == t106) = true := c5
    (try (have c5b1 : decide (t105 = t106) = true := by simpa using c5))
    (try (have c5b2 : (t105 == t106) = true := by simpa using c5))
    clear c5
    replace H := Option.bind_eq_some_iff.mp H
    obtain ⟨t107, A60, H⟩ := H
    replace H : ((cadenceref01_Trim.f a0 a1).bind fun t108 => (if t107 = t108 then ((bits_Signed.f a0 a1).bind fun t109 => ((cadenceref01_Signed.f a0 a1).bind fun t110 => (some (t109 == t110)))) else (some false))) = some r := H
    have A6 := Aside0.mk A60
    clear A60
    replace H := Option.bind_eq_some_iff.mp H
    obtain ⟨t108, A70, H⟩ := H
    replace H : (if t107 = t108 then ((bits_Signed.f a0 a1).bind fun t109 => ((cadenceref01_Signed.f a0 a1).bind fun t110 => (some (t109 == t110)))) else (some false)) = some r := H
    have A7 := Aside0.mk A70
    clear A70
    by_cases c8 : t107 = t108
    · rw [if_pos c8] at H
      have c8b0 : (t107 == t108) = true := beq_iff_eq.mpr c8
      have c8b1 : (t107 != t108) = false := bne_eq_false_iff_eq.mpr c8
      clear c8
      replace H := Option.bind_eq_some_iff.mp H
      obtain ⟨t109, A90, H⟩ := H
      replace H : ((cadenceref01_Signed.f a0 a1).bind fun t110 => (some (t109 == t110))) = some r := H
      have A9 := Aside0.mk A90
      clear A90
      replace H := Option.bind_eq_some_iff.mp H
      obtain ⟨t110, A100, H⟩ := H
      replace H : (some (t109 == t110)) = some r := H
      have A10 := Aside0.mk A100
      clear A100
      obtain rfl := Option.some.inj H
      go_enter Try.func4, Try.ntmps4
      go_wp2_with (first | ((with_reducible refine gate_callee (f := 15) rfl ?_); refine goesL_ (some 6) rfl rfl Try.func15 (by kernel_rfl) rfl #[.int .i64 a0] rfl (by (try simp only [List.map_toArray, List.map_cons, List.map_nil]); first | done | rfl | (simp only [List.length_drop, List.length_take]; rfl)) ?_; (with_reducible refine (bits_Right.calls a0 t105 _ A3.out).mono ?_); rintro e w' ⟨rfl, ⟨nd, rfl⟩⟩; refine ⟨_, rfl, ?_⟩) | ((with_reducible refine gate_callee (f := 16) rfl ?_); refine goesL_ (some 8) rfl rfl Try.func16 (by kernel_rfl) rfl #[.int .i64 a0] rfl (by (try simp only [List.map_toArray, List.map_cons, List.map_nil]); first | done | rfl | (simp only [List.length_drop, List.length_take]; rfl)) ?_; (with_reducible refine (cadenceref01_Right.calls a0 t106 _ A4.out).mono ?_); rintro e w' ⟨rfl, ⟨nd, rfl⟩⟩; refine ⟨_, rfl, ?_⟩) | (go_at_call 17; (with_reducible refine (bits_Trim.calls a0 a1 t107 _ A6.out).mono ?_); rintro e w' ⟨rfl, ⟨nd, rfl⟩⟩) | (go_at_call 18; (with_reducible refine (cadenceref01_Trim.calls a0 a1 t108 _ A7.out).mono ?_); rintro e w' ⟨rfl, ⟨nd, rfl⟩⟩) | (go_at_call 19; (with_reducible refine (bits_Signed.calls a0 a1 t109 _ A9.out).mono ?_); rintro e w' ⟨rfl, ⟨nd, rfl⟩⟩) | (go_at_call 20; (with_reducible refine (cadenceref01_Signed.calls a0 a1 t110 _ A10.out).mono ?_); rintro e w' ⟨rfl, ⟨nd, rfl⟩⟩))
      go_ret
      exact ⟨by first | rfl | (simp; done) | (simp [*]; done), by repeat (first | exact Drawn0.refl _ | apply Drawn0.step)⟩
    · rw [if_neg c8] at H
      have c8b0 : (t107 == t108) = false := beq_eq_false_iff_ne.mpr c8
      have c8b1 : (t107 != t108) = true := bne_iff_ne.mpr c8
      obtain rfl := Option.some.inj H
      go_enter Try.func4, Try.ntmps4
      go_wp2_with (first | ((with_reducible refine gate_callee (f := 15) rfl ?_); refine goesL_ (some 6) rfl rfl Try.func15 (by kernel_rfl) rfl #[.int .i64 a0] rfl (by (try simp only [List.map_toArray, List.map_cons, List.map_nil]); first | done | rfl | (simp only [List.length_drop, List.length_take]; rfl)) ?_; (with_reducible refine (bits_Right.calls a0 t105 _ A3.out).mono ?_); rintro e w' ⟨rfl, ⟨nd, rfl⟩⟩; refine ⟨_, rfl, ?_⟩) | ((with_reducible refine gate_callee (f := 16) rfl ?_); refine goesL_ (some 8) rfl rfl Try.func16 (by kernel_rfl) rfl #[.int .i64 a0] rfl (by (try simp only [List.map_toArray, List.map_cons, List.map_nil]); first | done | rfl | (simp only [List.length_drop, List.length_take]; rfl)) ?_; (with_reducible refine (cadenceref01_Right.calls a0 t106 _ A4.out).mono ?_); rintro e w' ⟨rfl, ⟨nd, rfl⟩⟩; refine ⟨_, rfl, ?_⟩) | (go_at_call 17; (with_reducible refine (bits_Trim.calls a0 a1 t107 _ A6.out).mono ?_); rintro e w' ⟨rfl, ⟨nd, rfl⟩⟩) | (go_at_call 18; (with_reducible refine (cadenceref01_Trim.calls a0 a1 t108 _ A7.out).mono ?_); rintro e w' ⟨rfl, ⟨nd, rfl⟩⟩))
      go_ret
      exact ⟨by first | rfl | (simp; done) | (simp [*]; done), by repeat (first | exact Drawn0.refl _ | apply Drawn0.step)⟩
  · rw [if_neg c5] at H
    have c5b0 : (t105 == t106) = false := by simpa using c5
    (try (have c5b1 : decide (t105 = t106) = false := by simpa using c5))
    (try (have c5b2 : (t105 == t106) = false := by simpa using c5))
    (try (have c5b3 : ¬ (t105 = t106) := by simpa using c5))
    clear c5
    obtain rfl := Option.some.inj H
    go_enter Try.func4, Try.ntmps4
    go_wp2_with (first | ((with_reducible refine gate_callee (f := 15) rfl ?_); refine goesL_ (some 6) rfl rfl Try.func15 (by kernel_rfl) rfl #[.int .i64 a0] rfl (by (try simp only [List.map_toArray, List.map_cons, List.map_nil]); first | done | rfl | (simp only [List.length_drop, List.length_take]; rfl)) ?_; (with_reducible refine (bits_Right.calls a0 t105 _ A3.out).mono ?_); rintro e w' ⟨rfl, ⟨nd, rfl⟩⟩; refine ⟨_, rfl, ?_⟩) | ((with_reducible refine gate_callee (f := 16) rfl ?_); refine goesL_ (some 8) rfl rfl Try.func16 (by kernel_rfl) rfl #[.int .i64 a0] rfl (by (try simp only [List.map_toArray, List.map_cons, List.map_nil]); first | done | rfl | (simp only [List.length_drop, List.length_take]; rfl)) ?_; (with_reducible refine (cadenceref01_Right.calls a0 t106 _ A4.out).mono ?_); rintro e w' ⟨rfl, ⟨nd, rfl⟩⟩; refine ⟨_, rfl, ?_⟩))
    go_ret
    exact ⟨by first | rfl | (simp; done) | (simp [*]; done), by repeat (first | exact Drawn0.refl _ | apply Drawn0.step)⟩

/-- THE ONE PURE STATEMENT of cadencelaw01_BitsWidths: yours. -/
def cadencelaw01_BitsWidths.Pure : Prop := ∀ (a0 : Int) (a1 : Int), (Lit.int .i64 a0).wf = true → (Lit.int .u64 a1).wf = true → cadencelaw01_BitsWidths.f a0 a1 = some true
theorem cadencelaw01_BitsWidths.walk (P : cadencelaw01_BitsWidths.Pure) (a0 : Int) (a1 : Int) (w : World) (w0 : (Lit.int .i64 a0).wf = true) (w1 : (Lit.int .u64 a1).wf = true) :
    Calls Try.prog 4 #[.int .i64 a0, .int .u64 a1] w fun e w' => e = .returned (.bool true) ∧ Below w.heap.size w w' := by
  have h := P a0 a1 w0 w1
  refine (cadencelaw01_BitsWidths.calls a0 a1 true w h).mono ?_
  rintro e w' ⟨rfl, hd⟩
  exact ⟨rfl, hd.below⟩

end Go.Proofs.Ytklnafmoihkbhaa.C
