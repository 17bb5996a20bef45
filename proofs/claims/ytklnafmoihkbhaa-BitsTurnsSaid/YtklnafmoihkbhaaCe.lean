/- Sections that print.sh wrote for single laws of this seat, laid together by merge.py into one namespace. -/
import Derived.Test.YtklnafmoihkbhaaCd
namespace Go.Proofs.Ytklnafmoihkbhaa.C
open Go.RowKit Go.Proofs.YtklnafmoihkbhaaW.PrintWords Go.Proofs.YtklnafmoihkbhaaW.PrintLast Go.Proofs.YtklnafmoihkbhaaW.PrintMore
attribute [local go_sem] max2_int min2_int max_two min_two max_three min_three max_four min_four
set_option linter.unusedVariables false
set_option linter.unusedSimpArgs false

/-! ### cadencelaw01_BitsTurns: function 10 -/
mutual
def cadencelaw01_BitsTurns.j0 : Nat → Int → Int → Int → Bool → Option (Bool)
  | 0, _, _, _, _ => none
  | k + 1, x1, x2, x7, x39 => if x39 = true then (some false) else (if (IntKind.u64.wrap (x7)) = 0 then (none) else ((cadencelaw01_two.f k 25 x7 x1 x2).bind fun t144 => (if 0 ≤ (Int.tmod x2 (IntKind.u64.wrap (x7))) then ((cadencelaw01_two.f k 22 x7 x1 (shl .u64 1 (Int.tmod x2 (IntKind.u64.wrap (x7))))).bind fun t145 => (if t144 = t145 then ((cadencelaw01_two.f k 26 x7 x1 x2).bind fun t146 => ((cadencelaw01_two.f k 23 x7 x1 (shl .u64 1 (Int.tmod x2 (IntKind.u64.wrap (x7))))).bind fun t147 => (if t146 = t147 then (cadencelaw01_BitsTurns.j1 k x1 x2 x7 (Int.tmod x2 (IntKind.u64.wrap (x7))) false) else (cadencelaw01_BitsTurns.j1 k x1 x2 x7 (Int.tmod x2 (IntKind.u64.wrap (x7))) (decide (x7 > 1)))))) else (cadencelaw01_BitsTurns.j1 k x1 x2 x7 (Int.tmod x2 (IntKind.u64.wrap (x7))) true))) else (none))))
def cadencelaw01_BitsTurns.j1 : Nat → Int → Int → Int → Int → Bool → Option (Bool)
  | 0, _, _, _, _, _ => none
  | k + 1, x1, x2, x7, x8, x69 => if x69 = true then (some false) else ((cadencelaw01_two.f k 25 x7 x1 x8).bind fun t148 => ((cadencelaw01_two.f k 26 x7 x1 (IntKind.u64.wrap ((IntKind.u64.wrap (x7)) - x8))).bind fun t149 => (if x8 = 0 then (some true) else ((cadencelaw01_two.f k 18 x7 t148 t149).bind fun t150 => ((cadencelaw01_two.f k 28 x7 x1 x2).bind fun t151 => (some (t150 == t151)))))))
end
def cadencelaw01_BitsTurns.f (k : Nat) (a0 : Int) (a1 : Int) (a2 : Int) : Option (Bool) := (cadencelaw01_alive.f k).bind fun t138 => (if t138 = true then (if 0 ≤ (Int.tmod (IntKind.u64.wrap (a0)) 7) then ((bits_Trim.f (shl .i64 1 (Int.tmod (IntKind.u64.wrap (a0)) 7)) a1).bind fun t139 => ((cadencelaw01_two.f k 28 (shl .i64 1 (Int.tmod (IntKind.u64.wrap (a0)) 7)) t139 a2).bind fun t140 => ((cadencelaw01_two.f k 29 (shl .i64 1 (Int.tmod (IntKind.u64.wrap (a0)) 7)) t140 a2).bind fun t141 => (if t141 = t139 then ((cadencelaw01_two.f k 29 (shl .i64 1 (Int.tmod (IntKind.u64.wrap (a0)) 7)) t139 a2).bind fun t142 => ((cadencelaw01_two.f k 28 (shl .i64 1 (Int.tmod (IntKind.u64.wrap (a0)) 7)) t142 a2).bind fun t143 => (cadencelaw01_BitsTurns.j0 k t139 a2 (shl .i64 1 (Int.tmod (IntKind.u64.wrap (a0)) 7)) (t143 != t139)))) else (cadencelaw01_BitsTurns.j0 k t139 a2 (shl .i64 1 (Int.tmod (IntKind.u64.wrap (a0)) 7)) true))))) else (none)) else (some false))
theorem cadencelaw01_BitsTurns.mono_l : ∀ k, (∀ y0 y1 y2 y3, LeO (cadencelaw01_BitsTurns.j0 k y0 y1 y2 y3) (cadencelaw01_BitsTurns.j0 (k + 1) y0 y1 y2 y3)) ∧ (∀ y0 y1 y2 y3 y4, LeO (cadencelaw01_BitsTurns.j1 k y0 y1 y2 y3 y4) (cadencelaw01_BitsTurns.j1 (k + 1) y0 y1 y2 y3 y4))
  | 0 => ⟨fun _ _ _ _ r h => by simp [cadencelaw01_BitsTurns.j0] at h, fun _ _ _ _ _ r h => by simp [cadencelaw01_BitsTurns.j1] at h⟩
  | k + 1 => by
    obtain ⟨ih0, ih1⟩ := cadencelaw01_BitsTurns.mono_l k
    refine ⟨?_, ?_⟩
    · intro y0 y1 y2 y3
      unfold cadencelaw01_BitsTurns.j0
      repeat' first
      | (with_reducible exact ih0 _ _ _ _)
      | (with_reducible exact ih1 _ _ _ _ _)
      | (with_reducible exact cadencelaw01_alive.mono _)
      | (with_reducible exact cadencelaw01_two.mono _ _ _ _ _)
      | (with_reducible exact LeO.refl _)
      | (with_reducible exact LeO.none _)
      | (with_reducible refine LeO.ite ?_ ?_)
      | (with_reducible refine LeO.bind ?_ (fun _ => ?_))
      | exact ih0 _ _ _ _
      | exact ih1 _ _ _ _ _
      | exact cadencelaw01_alive.mono _
      | exact cadencelaw01_two.mono _ _ _ _ _
      | exact LeO.none _
      | refine LeO.ite ?_ ?_
      | refine LeO.bind ?_ (fun _ => ?_)
    · intro y0 y1 y2 y3 y4
      unfold cadencelaw01_BitsTurns.j1
      repeat' first
      | (with_reducible exact ih0 _ _ _ _)
      | (with_reducible exact ih1 _ _ _ _ _)
      | (with_reducible exact cadencelaw01_alive.mono _)
      | (with_reducible exact cadencelaw01_two.mono _ _ _ _ _)
      | (with_reducible exact LeO.refl _)
      | (with_reducible exact LeO.none _)
      | (with_reducible refine LeO.ite ?_ ?_)
      | (with_reducible refine LeO.bind ?_ (fun _ => ?_))
      | exact ih0 _ _ _ _
      | exact ih1 _ _ _ _ _
      | exact cadencelaw01_alive.mono _
      | exact cadencelaw01_two.mono _ _ _ _ _
      | exact LeO.none _
      | refine LeO.ite ?_ ?_
      | refine LeO.bind ?_ (fun _ => ?_)
theorem cadencelaw01_BitsTurns.mono : ∀ a0 a1 a2 k, LeO (cadencelaw01_BitsTurns.f k a0 a1 a2) (cadencelaw01_BitsTurns.f (k + 1) a0 a1 a2) := by
  intro a0 a1 a2 k
  obtain ⟨ih0, ih1⟩ := cadencelaw01_BitsTurns.mono_l k
  unfold cadencelaw01_BitsTurns.f
  repeat' first
      | (with_reducible exact ih0 _ _ _ _)
      | (with_reducible exact ih1 _ _ _ _ _)
      | (with_reducible exact cadencelaw01_alive.mono _)
      | (with_reducible exact cadencelaw01_two.mono _ _ _ _ _)
      | (with_reducible exact LeO.refl _)
      | (with_reducible exact LeO.none _)
      | (with_reducible refine LeO.ite ?_ ?_)
      | (with_reducible refine LeO.bind ?_ (fun _ => ?_))
      | exact ih0 _ _ _ _
      | exact ih1 _ _ _ _ _
      | exact cadencelaw01_alive.mono _
      | exact cadencelaw01_two.mono _ _ _ _ _
      | exact LeO.none _
      | refine LeO.ite ?_ ?_
      | refine LeO.bind ?_ (fun _ => ?_)
set_option maxHeartbeats 8000000 in
set_option maxRecDepth 100000 in
theorem cadencelaw01_BitsTurns.calls (k : Nat) (a0 : Int) (a1 : Int) (a2 : Int) (r : Bool) (w : World) (h : cadencelaw01_BitsTurns.f k a0 a1 a2 = some r) :
    Calls Try.prog 10 #[.int .i64 a0, .int .u64 a1, .int .u64 a2] w fun e w' => e = .returned (.bool r) ∧ Drawn0 w w' := by
  have H : ((cadencelaw01_alive.f k).bind fun t138 => (if t138 = true then (if 0 ≤ (Int.tmod (IntKind.u64.wrap (a0)) 7) then ((bits_Trim.f (shl .i64 1 (Int.tmod (IntKind.u64.wrap (a0)) 7)) a1).bind fun t139 => ((cadencelaw01_two.f k 28 (shl .i64 1 (Int.tmod (IntKind.u64.wrap (a0)) 7)) t139 a2).bind fun t140 => ((cadencelaw01_two.f k 29 (shl .i64 1 (Int.tmod (IntKind.u64.wrap (a0)) 7)) t140 a2).bind fun t141 => (if t141 = t139 then ((cadencelaw01_two.f k 29 (shl .i64 1 (Int.tmod (IntKind.u64.wrap (a0)) 7)) t139 a2).bind fun t142 => ((cadencelaw01_two.f k 28 (shl .i64 1 (Int.tmod (IntKind.u64.wrap (a0)) 7)) t142 a2).bind fun t143 => (cadencelaw01_BitsTurns.j0 k t139 a2 (shl .i64 1 (Int.tmod (IntKind.u64.wrap (a0)) 7)) (t143 != t139)))) else (cadencelaw01_BitsTurns.j0 k t139 a2 (shl .i64 1 (Int.tmod (IntKind.u64.wrap (a0)) 7)) true))))) else (none)) else (some false))) = some r := h
  clear h
  replace H := Option.bind_eq_some_iff.mp H
  obtain ⟨t138, A40, H⟩ := H
  replace H : (if t138 = true then (if 0 ≤ (Int.tmod (IntKind.u64.wrap (a0)) 7) then ((bits_Trim.f (shl .i64 1 (Int.tmod (IntKind.u64.wrap (a0)) 7)) a1).bind fun t139 => ((cadencelaw01_two.f k 28 (shl .i64 1 (Int.tmod (IntKind.u64.wrap (a0)) 7)) t139 a2).bind fun t140 => ((cadencelaw01_two.f k 29 (shl .i64 1 (Int.tmod (IntKind.u64.wrap (a0)) 7)) t140 a2).bind fun t141 => (if t141 = t139 then ((cadencelaw01_two.f k 29 (shl .i64 1 (Int.tmod (IntKind.u64.wrap (a0)) 7)) t139 a2).bind fun t142 => ((cadencelaw01_two.f k 28 (shl .i64 1 (Int.tmod (IntKind.u64.wrap (a0)) 7)) t142 a2).bind fun t143 => (cadencelaw01_BitsTurns.j0 k t139 a2 (shl .i64 1 (Int.tmod (IntKind.u64.wrap (a0)) 7)) (t143 != t139)))) else (cadencelaw01_BitsTurns.j0 k t139 a2 (shl .i64 1 (Int.tmod (IntKind.u64.wrap (a0)) 7)) true))))) else (none)) else (some false)) = some r := H
  have A4 := Aside0.mk A40
  clear A40
  by_cases c5 : t138 = true
  · subst c5
    have H1 : (if 0 ≤ (Int.tmod (IntKind.u64.wrap (a0)) 7) then ((bits_Trim.f (shl .i64 1 (Int.tmod (IntKind.u64.wrap (a0)) 7)) a1).bind fun t139 => ((cadencelaw01_two.f k 28 (shl .i64 1 (Int.tmod (IntKind.u64.wrap (a0)) 7)) t139 a2).bind fun t140 => ((cadencelaw01_two.f k 29 (shl .i64 1 (Int.tmod (IntKind.u64.wrap (a0)) 7)) t140 a2).bind fun t141 => (if t141 = t139 then ((cadencelaw01_two.f k 29 (shl .i64 1 (Int.tmod (IntKind.u64.wrap (a0)) 7)) t139 a2).bind fun t142 => ((cadencelaw01_two.f k 28 (shl .i64 1 (Int.tmod (IntKind.u64.wrap (a0)) 7)) t142 a2).bind fun t143 => (cadencelaw01_BitsTurns.j0 k t139 a2 (shl .i64 1 (Int.tmod (IntKind.u64.wrap (a0)) 7)) (t143 != t139)))) else (cadencelaw01_BitsTurns.j0 k t139 a2 (shl .i64 1 (Int.tmod (IntKind.u64.wrap (a0)) 7)) true))))) else (none)) = some r := by rw [if_pos rfl] at H; exact H
    clear H
    have H := H1
    clear H1
    obtain ⟨ji6, hji6⟩ : ∃ j_ : Int, (Int.tmod (IntKind.u64.wrap (a0)) 7) = j_ := ⟨_, rfl⟩
    replace H : (if 0 ≤ (ji6) then ((bits_Trim.f (shl .i64 1 (ji6)) a1).bind fun t139 => ((cadencelaw01_two.f k 28 (shl .i64 1 (ji6)) t139 a2).bind fun t140 => ((cadencelaw01_two.f k 29 (shl .i64 1 (ji6)) t140 a2).bind fun t141 => (if t141 = t139 then ((cadencelaw01_two.f k 29 (shl .i64 1 (ji6)) t139 a2).bind fun t142 => ((cadencelaw01_two.f k 28 (shl .i64 1 (ji6)) t142 a2).bind fun t143 => (cadencelaw01_BitsTurns.j0 k t139 a2 (shl .i64 1 (ji6)) (t143 != t139)))) else (cadencelaw01_BitsTurns.j0 k t139 a2 (shl .i64 1 (ji6)) true))))) else (none)) = some r := by first | (rw [hji6] at H; exact H) | (simp only [hji6] at H ⊢; exact H)
    (try rw [hji6] at A4)
    by_cases c7 : 0 ≤ (ji6)
    · rw [if_pos c7] at H
      have c7b0 := eq_true c7
      have c7b1 : decide (0 ≤ (ji6)) = true := decide_eq_true c7
      clear c7
      obtain ⟨ji8, hji8⟩ : ∃ j_ : Int, (shl .i64 1 (ji6)) = j_ := ⟨_, rfl⟩
      replace H : ((bits_Trim.f (ji8) a1).bind fun t139 => ((cadencelaw01_two.f k 28 (ji8) t139 a2).bind fun t140 => ((cadencelaw01_two.f k 29 (ji8) t140 a2).bind fun t141 => (if t141 = t139 then ((cadencelaw01_two.f k 29 (ji8) t139 a2).bind fun t142 => ((cadencelaw01_two.f k 28 (ji8) t142 a2).bind fun t143 => (cadencelaw01_BitsTurns.j0 k t139 a2 ji8 (t143 != t139)))) else (cadencelaw01_BitsTurns.j0 k t139 a2 ji8 true))))) = some r := by first | (rw [hji8] at H; exact H) | (simp only [hji8] at H ⊢; exact H)
      (try rw [hji8] at A4)
      have hji8_ : (IntKind.i64.wrap (1 * 2 ^ min (ji6).toNat 64)) = ji8 := hji8
      have hji8z : (ji6) ≤ 64 → (IntKind.i64.wrap (1 * 2 ^ (ji6).toNat)) = ji8 := shl_small hji8
      have hji8u : (IntKind.i64.wrap (2 ^ min (ji6).toNat 64)) = ji8 := by have h_ := hji8_; rw [Int.one_mul] at h_; exact h_
      have hji8v : (ji6) ≤ 64 → (IntKind.i64.wrap (2 ^ (ji6).toNat)) = ji8 := fun hle_ => by have h_ := hji8z hle_; rw [Int.one_mul] at h_; exact h_
      have hji8y : (wrap64 (1 * 2 ^ min (ji6).toNat 64)) = ji8 := (i64_w _).symm.trans hji8_
      have hji8x : (ji6) ≤ 64 → (wrap64 (1 * 2 ^ (ji6).toNat)) = ji8 := fun h_ => (i64_w _).symm.trans (hji8z h_)
      replace H := Option.bind_eq_some_iff.mp H
      obtain ⟨t139, A90, H⟩ := H
      replace H : ((cadencelaw01_two.f k 28 (ji8) t139 a2).bind fun t140 => ((cadencelaw01_two.f k 29 (ji8) t140 a2).bind fun t141 => (if t141 = t139 then ((cadencelaw01_two.f k 29 (ji8) t139 a2).bind fun t142 => ((cadencelaw01_two.f k 28 (ji8) t142 a2).bind fun t143 => (cadencelaw01_BitsTurns.j0 k t139 a2 ji8 (t143 != t139)))) else (cadencelaw01_BitsTurns.j0 k t139 a2 ji8 true)))) = some r := H
      have A9 := Aside0.mk A90
      clear A90
      have HC10 := Aside0.mk H
      clear H
      go_enter Try.func10, Try.ntmps10
      go_upto_region 5 with (first | ((with_reducible refine gate_callee (f := 33) rfl ?_); refine goesL_ (some 11) rfl rfl Try.func33 (by kernel_rfl) rfl #[] rfl (by (try simp only [List.map_toArray, List.map_cons, List.map_nil]); first | done | rfl | (simp only [List.length_drop, List.length_take]; rfl)) ?_; (with_reducible refine (cadencelaw01_alive.calls k  true _ A4.out).mono ?_); rintro e w' ⟨rfl, ⟨nd, rfl⟩⟩; refine ⟨_, rfl, ?_⟩) | ((with_reducible refine gate_callee (f := 17) rfl ?_); refine goesL_ (some 19) rfl rfl Try.func17 (by kernel_rfl) rfl #[.int .i64 ji8, .int .u64 a1] rfl (by (try simp only [List.map_toArray, List.map_cons, List.map_nil]); first | done | (simp only [hji8]; rfl) | rfl | (simp only [List.length_drop, List.length_take]; rfl)) ?_; (with_reducible refine (bits_Trim.calls ji8 a1 t139 _ A9.out).mono ?_); rintro e w' ⟨rfl, ⟨nd, rfl⟩⟩; refine ⟨_, rfl, ?_⟩))
      (try simp only [Act.put, List.setIfInBounds_toArray, List.set_cons_zero, List.set_cons_succ])
      go_cut [39] (fun v39 wc => ∃ (kq : Nat) (x39_9 : Bool), v39 = .bool x39_9 ∧ Aside0 (cadencelaw01_BitsTurns.j0 kq t139 a2 ji8 x39_9 = some r) ∧ Aside0 (kq ≤ k) ∧ Drawn0 w wc)
      case first =>
        have H := HC10.out
        clear HC10
        replace H := Option.bind_eq_some_iff.mp H
        obtain ⟨t140, A110, H⟩ := H
        replace H : ((cadencelaw01_two.f k 29 (ji8) t140 a2).bind fun t141 => (if t141 = t139 then ((cadencelaw01_two.f k 29 (ji8) t139 a2).bind fun t142 => ((cadencelaw01_two.f k 28 (ji8) t142 a2).bind fun t143 => (cadencelaw01_BitsTurns.j0 k t139 a2 ji8 (t143 != t139)))) else (cadencelaw01_BitsTurns.j0 k t139 a2 ji8 true))) = some r := H
        have A11 := Aside0.mk A110
        clear A110
        replace H := Option.bind_eq_some_iff.mp H
        obtain ⟨t141, A120, H⟩ := H
        replace H : (if t141 = t139 then ((cadencelaw01_two.f k 29 (ji8) t139 a2).bind fun t142 => ((cadencelaw01_two.f k 28 (ji8) t142 a2).bind fun t143 => (cadencelaw01_BitsTurns.j0 k t139 a2 ji8 (t143 != t139)))) else (cadencelaw01_BitsTurns.j0 k t139 a2 ji8 true)) = some r := H
        have A12 := Aside0.mk A120
        clear A120
        by_cases c13 : t141 = t139
        · rw [if_pos c13] at H
          have c13b0 : (t141 == t139) = true := beq_iff_eq.mpr c13
          have c13b1 : (t141 != t139) = false := bne_eq_false_iff_eq.mpr c13
          clear c13
          (first | rw [c13b0] | (simp only [i64_w, i32_w]; rw [c13b0]) | skip)
          replace H := Option.bind_eq_some_iff.mp H
          obtain ⟨t142, A140, H⟩ := H
          replace H : ((cadencelaw01_two.f k 28 (ji8) t142 a2).bind fun t143 => (cadencelaw01_BitsTurns.j0 k t139 a2 ji8 (t143 != t139))) = some r := H
          have A14 := Aside0.mk A140
          clear A140
          replace H := Option.bind_eq_some_iff.mp H
          obtain ⟨t143, A150, H⟩ := H
          replace H : (cadencelaw01_BitsTurns.j0 k t139 a2 ji8 (t143 != t139)) = some r := H
          have A15 := Aside0.mk A150
          clear A150
          have H' := Aside0.mk H
          clear H
          go_wp2_with (first | ((with_reducible refine gate_callee (f := 34) rfl ?_); refine goesL_ (some 24) rfl rfl Try.func34 (by kernel_rfl) rfl #[.int .i64 28, .int .i64 ji8, .int .u64 t139, .int .u64 a2] rfl (by (try simp only [List.map_toArray, List.map_cons, List.map_nil]); first | done | (simp only [hji8]; rfl) | rfl | (simp only [List.length_drop, List.length_take]; rfl)) ?_; (with_reducible refine (cadencelaw01_two.calls k 28 ji8 t139 a2 t140 _ A11.out).mono ?_); rintro e w' ⟨rfl, ⟨nd, rfl⟩⟩; refine ⟨_, rfl, ?_⟩) | ((with_reducible refine gate_callee (f := 34) rfl ?_); refine goesL_ (some 26) rfl rfl Try.func34 (by kernel_rfl) rfl #[.int .i64 29, .int .i64 ji8, .int .u64 t140, .int .u64 a2] rfl (by (try simp only [List.map_toArray, List.map_cons, List.map_nil]); first | done | (simp only [hji8]; rfl) | rfl | (simp only [List.length_drop, List.length_take]; rfl)) ?_; (with_reducible refine (cadencelaw01_two.calls k 29 ji8 t140 a2 t141 _ A12.out).mono ?_); rintro e w' ⟨rfl, ⟨nd, rfl⟩⟩; refine ⟨_, rfl, ?_⟩) | (go_at_call 34; (with_reducible refine (cadencelaw01_two.calls k 29 ji8 t139 a2 t142 _ A14.out).mono ?_); rintro e w' ⟨rfl, ⟨nd, rfl⟩⟩) | (go_at_call 34; (with_reducible refine (cadencelaw01_two.calls k 28 ji8 t142 a2 t143 _ A15.out).mono ?_); rintro e w' ⟨rfl, ⟨nd, rfl⟩⟩))
          go_meet
          case rel => exact ⟨_, ((t143 != t139)), (by first | rfl | (simp; done) | (simp [*]; done)), H', ⟨by first | omega | exact Nat.le_refl _⟩, by repeat (first | exact Drawn0.refl _ | apply Drawn0.step)⟩
        · rw [if_neg c13] at H
          have c13b0 : (t141 == t139) = false := beq_eq_false_iff_ne.mpr c13
          have c13b1 : (t141 != t139) = true := bne_iff_ne.mpr c13
          (first | rw [c13b0] | (simp only [i64_w, i32_w]; rw [c13b0]) | skip)
          have H' := Aside0.mk H
          clear H
          go_wp2_with (first | ((with_reducible refine gate_callee (f := 34) rfl ?_); refine goesL_ (some 24) rfl rfl Try.func34 (by kernel_rfl) rfl #[.int .i64 28, .int .i64 ji8, .int .u64 t139, .int .u64 a2] rfl (by (try simp only [List.map_toArray, List.map_cons, List.map_nil]); first | done | (simp only [hji8]; rfl) | rfl | (simp only [List.length_drop, List.length_take]; rfl)) ?_; (with_reducible refine (cadencelaw01_two.calls k 28 ji8 t139 a2 t140 _ A11.out).mono ?_); rintro e w' ⟨rfl, ⟨nd, rfl⟩⟩; refine ⟨_, rfl, ?_⟩) | ((with_reducible refine gate_callee (f := 34) rfl ?_); refine goesL_ (some 26) rfl rfl Try.func34 (by kernel_rfl) rfl #[.int .i64 29, .int .i64 ji8, .int .u64 t140, .int .u64 a2] rfl (by (try simp only [List.map_toArray, List.map_cons, List.map_nil]); first | done | (simp only [hji8]; rfl) | rfl | (simp only [List.length_drop, List.length_take]; rfl)) ?_; (with_reducible refine (cadencelaw01_two.calls k 29 ji8 t140 a2 t141 _ A12.out).mono ?_); rintro e w' ⟨rfl, ⟨nd, rfl⟩⟩; refine ⟨_, rfl, ?_⟩))
          go_meet
          case rel => exact ⟨_, (true), (by first | rfl | (simp; done) | (simp [*]; done)), H', ⟨by first | omega | exact Nat.le_refl _⟩, by repeat (first | exact Drawn0.refl _ | apply Drawn0.step)⟩
      case rest =>
        clear HC10
        try clear c1
        try clear p2
        try clear c3
        try clear c5
        try clear p6
        try clear c7
        try clear c7b0
        try clear c7b1
        try clear c10
        try clear c13
        try clear c13b0
        try clear c13b1
        obtain ⟨kq, x39_9, rfl, HA, HJ9, ⟨mc9, rfl⟩⟩ := hcut
        cases kq with
        | zero => exact absurd HA.out (by simp [cadencelaw01_BitsTurns.j0])
        | succ kj9 =>
          have H := HA.out
          clear HA
          simp only [cadencelaw01_BitsTurns.j0] at H
          by_cases c16 : x39_9 = true
          · subst c16
            have H1 : (some false) = some r := by rw [if_pos rfl] at H; exact H
            clear H
            have H := H1
            clear H1
            obtain rfl := Option.some.inj H
            go_wp2
            go_ret
            exact ⟨by first | rfl | (simp; done) | (simp only [← hji6, ← hji8] <;> (first | rfl | simp)) | (simp [*]; done), by repeat (first | exact Drawn0.refl _ | apply Drawn0.step)⟩
          · replace c16 := Bool.eq_false_iff.mpr c16
            subst c16
            have H1 : (if (IntKind.u64.wrap (ji8)) = 0 then (none) else ((cadencelaw01_two.f kj9 25 ji8 t139 a2).bind fun t144 => (if 0 ≤ (Int.tmod a2 (IntKind.u64.wrap (ji8))) then ((cadencelaw01_two.f kj9 22 ji8 t139 (shl .u64 1 (Int.tmod a2 (IntKind.u64.wrap (ji8))))).bind fun t145 => (if t144 = t145 then ((cadencelaw01_two.f kj9 26 ji8 t139 a2).bind fun t146 => ((cadencelaw01_two.f kj9 23 ji8 t139 (shl .u64 1 (Int.tmod a2 (IntKind.u64.wrap (ji8))))).bind fun t147 => (if t146 = t147 then (cadencelaw01_BitsTurns.j1 kj9 t139 a2 ji8 (Int.tmod a2 (IntKind.u64.wrap (ji8))) false) else (cadencelaw01_BitsTurns.j1 kj9 t139 a2 ji8 (Int.tmod a2 (IntKind.u64.wrap (ji8))) (decide (ji8 > 1)))))) else (cadencelaw01_BitsTurns.j1 kj9 t139 a2 ji8 (Int.tmod a2 (IntKind.u64.wrap (ji8))) true))) else (none)))) = some r := by rw [if_neg (show ¬ (false = true) by decide)] at H; exact H
            clear H
            have H := H1
            clear H1
            by_cases c17 : (IntKind.u64.wrap (ji8)) = 0
            · rw [if_pos c17] at H
              exact absurd H (by simp)
            · rw [if_neg c17] at H
              have c17b0 : ((IntKind.u64.wrap (ji8)) == 0) = false := beq_eq_false_iff_ne.mpr c17
              have c17b1 : ((IntKind.u64.wrap (ji8)) != 0) = true := bne_iff_ne.mpr c17
              have HC18 := Aside0.mk H
              clear H
              go_upto_region 8 with (fail)
              go_cut [69] (fun v69 wc => ∃ (kq : Nat) (x69_17 : Bool), v69 = .bool x69_17 ∧ Aside0 (cadencelaw01_BitsTurns.j1 kq t139 a2 ji8 (Int.tmod a2 (IntKind.u64.wrap (ji8))) x69_17 = some r) ∧ Aside0 (kq ≤ kj9) ∧ Drawn0 w wc)
              case first =>
                have H := HC18.out
                clear HC18
                replace H := Option.bind_eq_some_iff.mp H
                obtain ⟨t144, A190, H⟩ := H
                replace H : (if 0 ≤ (Int.tmod a2 (IntKind.u64.wrap (ji8))) then ((cadencelaw01_two.f kj9 22 ji8 t139 (shl .u64 1 (Int.tmod a2 (IntKind.u64.wrap (ji8))))).bind fun t145 => (if t144 = t145 then ((cadencelaw01_two.f kj9 26 ji8 t139 a2).bind fun t146 => ((cadencelaw01_two.f kj9 23 ji8 t139 (shl .u64 1 (Int.tmod a2 (IntKind.u64.wrap (ji8))))).bind fun t147 => (if t146 = t147 then (cadencelaw01_BitsTurns.j1 kj9 t139 a2 ji8 (Int.tmod a2 (IntKind.u64.wrap (ji8))) false) else (cadencelaw01_BitsTurns.j1 kj9 t139 a2 ji8 (Int.tmod a2 (IntKind.u64.wrap (ji8))) (decide (ji8 > 1)))))) else (cadencelaw01_BitsTurns.j1 kj9 t139 a2 ji8 (Int.tmod a2 (IntKind.u64.wrap (ji8))) true))) else (none)) = some r := H
                have A19 := Aside0.mk A190
                clear A190
                obtain ⟨ji20, hji20⟩ : ∃ j_ : Int, (Int.tmod a2 (IntKind.u64.wrap (ji8))) = j_ := ⟨_, rfl⟩
                replace H : (if 0 ≤ (ji20) then ((cadencelaw01_two.f kj9 22 ji8 t139 (shl .u64 1 (ji20))).bind fun t145 => (if t144 = t145 then ((cadencelaw01_two.f kj9 26 ji8 t139 a2).bind fun t146 => ((cadencelaw01_two.f kj9 23 ji8 t139 (shl .u64 1 (ji20))).bind fun t147 => (if t146 = t147 then (cadencelaw01_BitsTurns.j1 kj9 t139 a2 ji8 ji20 false) else (cadencelaw01_BitsTurns.j1 kj9 t139 a2 ji8 ji20 (decide (ji8 > 1)))))) else (cadencelaw01_BitsTurns.j1 kj9 t139 a2 ji8 ji20 true))) else (none)) = some r := by first | (rw [hji20] at H; exact H) | (simp only [hji20] at H ⊢; exact H)
                (try rw [hji20] at A19)
                by_cases c21 : 0 ≤ (ji20)
                · rw [if_pos c21] at H
                  have c21b0 := eq_true c21
                  have c21b1 : decide (0 ≤ (ji20)) = true := decide_eq_true c21
                  clear c21
                  obtain ⟨ji22, hji22⟩ : ∃ j_ : Int, (shl .u64 1 (ji20)) = j_ := ⟨_, rfl⟩
                  replace H : ((cadencelaw01_two.f kj9 22 ji8 t139 (ji22)).bind fun t145 => (if t144 = t145 then ((cadencelaw01_two.f kj9 26 ji8 t139 a2).bind fun t146 => ((cadencelaw01_two.f kj9 23 ji8 t139 (ji22)).bind fun t147 => (if t146 = t147 then (cadencelaw01_BitsTurns.j1 kj9 t139 a2 ji8 ji20 false) else (cadencelaw01_BitsTurns.j1 kj9 t139 a2 ji8 ji20 (decide (ji8 > 1)))))) else (cadencelaw01_BitsTurns.j1 kj9 t139 a2 ji8 ji20 true))) = some r := by first | (rw [hji22] at H; exact H) | (simp only [hji22] at H ⊢; exact H)
                  (try rw [hji22] at A19)
                  have hji22_ : (IntKind.u64.wrap (1 * 2 ^ min (ji20).toNat 64)) = ji22 := hji22
                  have hji22z : (ji20) ≤ 64 → (IntKind.u64.wrap (1 * 2 ^ (ji20).toNat)) = ji22 := shl_small hji22
                  have hji22u : (IntKind.u64.wrap (2 ^ min (ji20).toNat 64)) = ji22 := by have h_ := hji22_; rw [Int.one_mul] at h_; exact h_
                  have hji22v : (ji20) ≤ 64 → (IntKind.u64.wrap (2 ^ (ji20).toNat)) = ji22 := fun hle_ => by have h_ := hji22z hle_; rw [Int.one_mul] at h_; exact h_
                  replace H := Option.bind_eq_some_iff.mp H
                  obtain ⟨t145, A230, H⟩ := H
                  replace H : (if t144 = t145 then ((cadencelaw01_two.f kj9 26 ji8 t139 a2).bind fun t146 => ((cadencelaw01_two.f kj9 23 ji8 t139 (ji22)).bind fun t147 => (if t146 = t147 then (cadencelaw01_BitsTurns.j1 kj9 t139 a2 ji8 ji20 false) else (cadencelaw01_BitsTurns.j1 kj9 t139 a2 ji8 ji20 (decide (ji8 > 1)))))) else (cadencelaw01_BitsTurns.j1 kj9 t139 a2 ji8 ji20 true)) = some r := H
                  have A23 := Aside0.mk A230
                  clear A230
                  by_cases c24 : t144 = t145
                  · rw [if_pos c24] at H
                    have c24b0 : (t144 == t145) = true := beq_iff_eq.mpr c24
                    have c24b1 : (t144 != t145) = false := bne_eq_false_iff_eq.mpr c24
                    clear c24
                    (first | rw [c24b0] | (simp only [i64_w, i32_w]; rw [c24b0]) | skip)
                    replace H := Option.bind_eq_some_iff.mp H
                    obtain ⟨t146, A250, H⟩ := H
                    replace H : ((cadencelaw01_two.f kj9 23 ji8 t139 (ji22)).bind fun t147 => (if t146 = t147 then (cadencelaw01_BitsTurns.j1 kj9 t139 a2 ji8 ji20 false) else (cadencelaw01_BitsTurns.j1 kj9 t139 a2 ji8 ji20 (decide (ji8 > 1))))) = some r := H
                    have A25 := Aside0.mk A250
                    clear A250
                    have c26b0 := eq_true (of_decide_eq_true (by first | (with_reducible assumption) | assumption) : 0 ≤ (ji20))
                    replace H := Option.bind_eq_some_iff.mp H
                    obtain ⟨t147, A280, H⟩ := H
                    replace H : (if t146 = t147 then (cadencelaw01_BitsTurns.j1 kj9 t139 a2 ji8 ji20 false) else (cadencelaw01_BitsTurns.j1 kj9 t139 a2 ji8 ji20 (decide (ji8 > 1)))) = some r := H
                    have A28 := Aside0.mk A280
                    clear A280
                    by_cases c29 : t146 = t147
                    · rw [if_pos c29] at H
                      have c29b0 : (t146 == t147) = true := beq_iff_eq.mpr c29
                      have c29b1 : (t146 != t147) = false := bne_eq_false_iff_eq.mpr c29
                      clear c29
                      have H' := Aside0.mk H
                      clear H
                      go_wp2_with (first | ((with_reducible refine gate_callee (f := 34) rfl ?_); refine goesL_ (some 47) rfl rfl Try.func34 (by kernel_rfl) rfl #[.int .i64 25, .int .i64 ji8, .int .u64 t139, .int .u64 a2] rfl (by (try simp only [List.map_toArray, List.map_cons, List.map_nil]); first | done | (simp only [hji8]; rfl) | rfl | (simp only [List.length_drop, List.length_take]; rfl)) ?_; (with_reducible refine (cadencelaw01_two.calls kj9 25 ji8 t139 a2 t144 _ A19.out).mono ?_); rintro e w' ⟨rfl, ⟨nd, rfl⟩⟩; refine ⟨_, rfl, ?_⟩) | ((with_reducible refine gate_callee (f := 34) rfl ?_); refine goesL_ (some 52) rfl rfl Try.func34 (by kernel_rfl) rfl #[.int .i64 22, .int .i64 ji8, .int .u64 t139, .int .u64 ji22] rfl (by (try simp only [List.map_toArray, List.map_cons, List.map_nil]); first | done | (simp only [hji22, hji8]; rfl) | rfl | (simp only [List.length_drop, List.length_take]; rfl)) ?_; (with_reducible refine (cadencelaw01_two.calls kj9 22 ji8 t139 ji22 t145 _ A23.out).mono ?_); rintro e w' ⟨rfl, ⟨nd, rfl⟩⟩; refine ⟨_, rfl, ?_⟩) | (go_at_call 34; (with_reducible refine (cadencelaw01_two.calls kj9 26 ji8 t139 a2 t146 _ A25.out).mono ?_); rintro e w' ⟨rfl, ⟨nd, rfl⟩⟩) | (go_at_call 34; (with_reducible refine (cadencelaw01_two.calls kj9 23 ji8 t139 ji22 t147 _ A28.out).mono ?_); rintro e w' ⟨rfl, ⟨nd, rfl⟩⟩))
                      subst hji20
                      go_meet
                      case rel => exact ⟨_, (false), (by first | rfl | (simp; done) | (simp [*]; done)), H', ⟨by have := HJ9.out; first | omega | exact Nat.le_refl _⟩, by repeat (first | exact Drawn0.refl _ | apply Drawn0.step)⟩
                    · rw [if_neg c29] at H
                      have c29b0 : (t146 == t147) = false := beq_eq_false_iff_ne.mpr c29
                      have c29b1 : (t146 != t147) = true := bne_iff_ne.mpr c29
                      have H' := Aside0.mk H
                      clear H
                      go_wp2_with (first | ((with_reducible refine gate_callee (f := 34) rfl ?_); refine goesL_ (some 47) rfl rfl Try.func34 (by kernel_rfl) rfl #[.int .i64 25, .int .i64 ji8, .int .u64 t139, .int .u64 a2] rfl (by (try simp only [List.map_toArray, List.map_cons, List.map_nil]); first | done | (simp only [hji8]; rfl) | rfl | (simp only [List.length_drop, List.length_take]; rfl)) ?_; (with_reducible refine (cadencelaw01_two.calls kj9 25 ji8 t139 a2 t144 _ A19.out).mono ?_); rintro e w' ⟨rfl, ⟨nd, rfl⟩⟩; refine ⟨_, rfl, ?_⟩) | ((with_reducible refine gate_callee (f := 34) rfl ?_); refine goesL_ (some 52) rfl rfl Try.func34 (by kernel_rfl) rfl #[.int .i64 22, .int .i64 ji8, .int .u64 t139, .int .u64 ji22] rfl (by (try simp only [List.map_toArray, List.map_cons, List.map_nil]); first | done | (simp only [hji22, hji8]; rfl) | rfl | (simp only [List.length_drop, List.length_take]; rfl)) ?_; (with_reducible refine (cadencelaw01_two.calls kj9 22 ji8 t139 ji22 t145 _ A23.out).mono ?_); rintro e w' ⟨rfl, ⟨nd, rfl⟩⟩; refine ⟨_, rfl, ?_⟩) | (go_at_call 34; (with_reducible refine (cadencelaw01_two.calls kj9 26 ji8 t139 a2 t146 _ A25.out).mono ?_); rintro e w' ⟨rfl, ⟨nd, rfl⟩⟩) | (go_at_call 34; (with_reducible refine (cadencelaw01_two.calls kj9 23 ji8 t139 ji22 t147 _ A28.out).mono ?_); rintro e w' ⟨rfl, ⟨nd, rfl⟩⟩))
                      subst hji20
                      go_meet
                      case rel => exact ⟨_, (decide (ji8 > 1)), (by first | rfl | (simp; done) | (simp only [← hji8] <;> (first | rfl | simp)) | (simp [*]; done)), H', ⟨by have := HJ9.out; first | omega | exact Nat.le_refl _⟩, by repeat (first | exact Drawn0.refl _ | apply Drawn0.step)⟩
                  · rw [if_neg c24] at H
                    have c24b0 : (t144 == t145) = false := beq_eq_false_iff_ne.mpr c24
                    have c24b1 : (t144 != t145) = true := bne_iff_ne.mpr c24
                    (first | rw [c24b0] | (simp only [i64_w, i32_w]; rw [c24b0]) | skip)
                    have H' := Aside0.mk H
                    clear H
                    go_wp2_with (first | ((with_reducible refine gate_callee (f := 34) rfl ?_); refine goesL_ (some 47) rfl rfl Try.func34 (by kernel_rfl) rfl #[.int .i64 25, .int .i64 ji8, .int .u64 t139, .int .u64 a2] rfl (by (try simp only [List.map_toArray, List.map_cons, List.map_nil]); first | done | (simp only [hji8]; rfl) | rfl | (simp only [List.length_drop, List.length_take]; rfl)) ?_; (with_reducible refine (cadencelaw01_two.calls kj9 25 ji8 t139 a2 t144 _ A19.out).mono ?_); rintro e w' ⟨rfl, ⟨nd, rfl⟩⟩; refine ⟨_, rfl, ?_⟩) | ((with_reducible refine gate_callee (f := 34) rfl ?_); refine goesL_ (some 52) rfl rfl Try.func34 (by kernel_rfl) rfl #[.int .i64 22, .int .i64 ji8, .int .u64 t139, .int .u64 ji22] rfl (by (try simp only [List.map_toArray, List.map_cons, List.map_nil]); first | done | (simp only [hji22, hji8]; rfl) | rfl | (simp only [List.length_drop, List.length_take]; rfl)) ?_; (with_reducible refine (cadencelaw01_two.calls kj9 22 ji8 t139 ji22 t145 _ A23.out).mono ?_); rintro e w' ⟨rfl, ⟨nd, rfl⟩⟩; refine ⟨_, rfl, ?_⟩))
                    subst hji20
                    go_meet
                    case rel => exact ⟨_, (true), (by first | rfl | (simp; done) | (simp [*]; done)), H', ⟨by have := HJ9.out; first | omega | exact Nat.le_refl _⟩, by repeat (first | exact Drawn0.refl _ | apply Drawn0.step)⟩
                · rw [if_neg c21] at H
                  exact absurd H (by simp)
              case rest =>
                clear HC18
                try clear c1
                try clear c2
                try clear p2
                try clear c3
                try clear c5
                try clear p6
                try clear c7
                try clear c7b0
                try clear c7b1
                try clear c9
                try clear c10
                try clear c13
                try clear c13b0
                try clear c13b1
                try clear c16
                try clear c17
                try clear c17b0
                try clear c17b1
                try clear c21
                try clear c21b0
                try clear c21b1
                try clear c24
                try clear c24b0
                try clear c24b1
                try clear c26
                try clear c26b0
                try clear c27
                try clear c27b0
                try clear c29
                try clear c29b0
                try clear c29b1
                try clear p2
                try clear p6
                obtain ⟨kq, x69_17, rfl, HA, HJ17, ⟨mc17, rfl⟩⟩ := hcut
                cases kq with
                | zero => exact absurd HA.out (by simp [cadencelaw01_BitsTurns.j1])
                | succ kj17 =>
                  have H := HA.out
                  clear HA
                  simp only [cadencelaw01_BitsTurns.j1] at H
                  by_cases c30 : x69_17 = true
                  · subst c30
                    have H1 : (some false) = some r := by rw [if_pos rfl] at H; exact H
                    clear H
                    have H := H1
                    clear H1
                    obtain rfl := Option.some.inj H
                    go_wp2
                    go_ret
                    exact ⟨by first | rfl | (simp; done) | (simp only [← hji6, ← hji8] <;> (first | rfl | simp)) | (simp [*]; done), by repeat (first | exact Drawn0.refl _ | apply Drawn0.step)⟩
                  · replace c30 := Bool.eq_false_iff.mpr c30
                    subst c30
                    have H1 : ((cadencelaw01_two.f kj17 25 ji8 t139 (Int.tmod a2 (IntKind.u64.wrap (ji8)))).bind fun t148 => ((cadencelaw01_two.f kj17 26 ji8 t139 (IntKind.u64.wrap ((IntKind.u64.wrap (ji8)) - (Int.tmod a2 (IntKind.u64.wrap (ji8)))))).bind fun t149 => (if (Int.tmod a2 (IntKind.u64.wrap (ji8))) = 0 then (some true) else ((cadencelaw01_two.f kj17 18 ji8 t148 t149).bind fun t150 => ((cadencelaw01_two.f kj17 28 ji8 t139 a2).bind fun t151 => (some (t150 == t151))))))) = some r := by rw [if_neg (show ¬ (false = true) by decide)] at H; exact H
                    clear H
                    have H := H1
                    clear H1
                    replace H := Option.bind_eq_some_iff.mp H
                    obtain ⟨t148, A310, H⟩ := H
                    replace H : ((cadencelaw01_two.f kj17 26 ji8 t139 (IntKind.u64.wrap ((IntKind.u64.wrap (ji8)) - (Int.tmod a2 (IntKind.u64.wrap (ji8)))))).bind fun t149 => (if (Int.tmod a2 (IntKind.u64.wrap (ji8))) = 0 then (some true) else ((cadencelaw01_two.f kj17 18 ji8 t148 t149).bind fun t150 => ((cadencelaw01_two.f kj17 28 ji8 t139 a2).bind fun t151 => (some (t150 == t151)))))) = some r := H
                    have A31 := Aside0.mk A310
                    clear A310
                    replace H := Option.bind_eq_some_iff.mp H
                    obtain ⟨t149, A320, H⟩ := H
                    replace H : (if (Int.tmod a2 (IntKind.u64.wrap (ji8))) = 0 then (some true) else ((cadencelaw01_two.f kj17 18 ji8 t148 t149).bind fun t150 => ((cadencelaw01_two.f kj17 28 ji8 t139 a2).bind fun t151 => (some (t150 == t151))))) = some r := H
                    have A32 := Aside0.mk A320
                    clear A320
                    by_cases c33 : (Int.tmod a2 (IntKind.u64.wrap (ji8))) = 0
                    · rw [if_pos c33] at H
                      have c33b0 : ((Int.tmod a2 (IntKind.u64.wrap (ji8))) == 0) = true := beq_iff_eq.mpr c33
                      have c33b1 : ((Int.tmod a2 (IntKind.u64.wrap (ji8))) != 0) = false := bne_eq_false_iff_eq.mpr c33
                      clear c33
                      obtain rfl := Option.some.inj H
                      go_wp2_with (first | ((with_reducible refine gate_callee (f := 34) rfl ?_); refine goesL_ (some 73) rfl rfl Try.func34 (by kernel_rfl) rfl #[.int .i64 25, .int .i64 ji8, .int .u64 t139, .int .u64 (Int.tmod a2 (IntKind.u64.wrap (ji8)))] rfl (by (try simp only [List.map_toArray, List.map_cons, List.map_nil]); first | done | (simp only [hji8]; rfl) | rfl | (simp only [List.length_drop, List.length_take]; rfl)) ?_; (with_reducible refine (cadencelaw01_two.calls kj17 25 ji8 t139 (Int.tmod a2 (IntKind.u64.wrap (ji8))) t148 _ A31.out).mono ?_); rintro e w' ⟨rfl, ⟨nd, rfl⟩⟩; refine ⟨_, rfl, ?_⟩) | ((with_reducible refine gate_callee (f := 34) rfl ?_); refine goesL_ (some 80) rfl rfl Try.func34 (by kernel_rfl) rfl #[.int .i64 26, .int .i64 ji8, .int .u64 t139, .int .u64 (IntKind.u64.wrap ((IntKind.u64.wrap (ji8)) - (Int.tmod a2 (IntKind.u64.wrap (ji8)))))] rfl (by (try simp only [List.map_toArray, List.map_cons, List.map_nil]); first | done | (simp only [hji8]; rfl) | rfl | (simp only [List.length_drop, List.length_take]; rfl)) ?_; (with_reducible refine (cadencelaw01_two.calls kj17 26 ji8 t139 (IntKind.u64.wrap ((IntKind.u64.wrap (ji8)) - (Int.tmod a2 (IntKind.u64.wrap (ji8))))) t149 _ A32.out).mono ?_); rintro e w' ⟨rfl, ⟨nd, rfl⟩⟩; refine ⟨_, rfl, ?_⟩))
                      go_ret
                      exact ⟨by first | rfl | (simp; done) | (simp only [← hji6, ← hji8] <;> (first | rfl | simp)) | (simp [*]; done), by repeat (first | exact Drawn0.refl _ | apply Drawn0.step)⟩
                    · rw [if_neg c33] at H
                      have c33b0 : ((Int.tmod a2 (IntKind.u64.wrap (ji8))) == 0) = false := beq_eq_false_iff_ne.mpr c33
                      have c33b1 : ((Int.tmod a2 (IntKind.u64.wrap (ji8))) != 0) = true := bne_iff_ne.mpr c33
                      replace H := Option.bind_eq_some_iff.mp H
                      obtain ⟨t150, A340, H⟩ := H
                      replace H : ((cadencelaw01_two.f kj17 28 ji8 t139 a2).bind fun t151 => (some (t150 == t151))) = some r := H
                      have A34 := Aside0.mk A340
                      clear A340
                      replace H := Option.bind_eq_some_iff.mp H
                      obtain ⟨t151, A350, H⟩ := H
                      replace H : (some (t150 == t151)) = some r := H
                      have A35 := Aside0.mk A350
                      clear A350
                      obtain rfl := Option.some.inj H
                      go_wp2_with (first | ((with_reducible refine gate_callee (f := 34) rfl ?_); refine goesL_ (some 73) rfl rfl Try.func34 (by kernel_rfl) rfl #[.int .i64 25, .int .i64 ji8, .int .u64 t139, .int .u64 (Int.tmod a2 (IntKind.u64.wrap (ji8)))] rfl (by (try simp only [List.map_toArray, List.map_cons, List.map_nil]); first | done | (simp only [hji8]; rfl) | rfl | (simp only [List.length_drop, List.length_take]; rfl)) ?_; (with_reducible refine (cadencelaw01_two.calls kj17 25 ji8 t139 (Int.tmod a2 (IntKind.u64.wrap (ji8))) t148 _ A31.out).mono ?_); rintro e w' ⟨rfl, ⟨nd, rfl⟩⟩; refine ⟨_, rfl, ?_⟩) | ((with_reducible refine gate_callee (f := 34) rfl ?_); refine goesL_ (some 80) rfl rfl Try.func34 (by kernel_rfl) rfl #[.int .i64 26, .int .i64 ji8, .int .u64 t139, .int .u64 (IntKind.u64.wrap ((IntKind.u64.wrap (ji8)) - (Int.tmod a2 (IntKind.u64.wrap (ji8)))))] rfl (by (try simp only [List.map_toArray, List.map_cons, List.map_nil]); first | done | (simp only [hji8]; rfl) | rfl | (simp only [List.length_drop, List.length_take]; rfl)) ?_; (with_reducible refine (cadencelaw01_two.calls kj17 26 ji8 t139 (IntKind.u64.wrap ((IntKind.u64.wrap (ji8)) - (Int.tmod a2 (IntKind.u64.wrap (ji8))))) t149 _ A32.out).mono ?_); rintro e w' ⟨rfl, ⟨nd, rfl⟩⟩; refine ⟨_, rfl, ?_⟩) | (go_at_call 34; (with_reducible refine (cadencelaw01_two.calls kj17 18 ji8 t148 t149 t150 _ A34.out).mono ?_); rintro e w' ⟨rfl, ⟨nd, rfl⟩⟩) | (go_at_call 34; (with_reducible refine (cadencelaw01_two.calls kj17 28 ji8 t139 a2 t151 _ A35.out).mono ?_); rintro e w' ⟨rfl, ⟨nd, rfl⟩⟩))
                      go_ret
                      exact ⟨by first | rfl | (simp; done) | (simp only [← hji6, ← hji8] <;> (first | rfl | simp)) | (simp [*]; done), by repeat (first | exact Drawn0.refl _ | apply Drawn0.step)⟩
    · rw [if_neg c7] at H
      exact absurd H (by simp)
  · replace c5 := Bool.eq_false_iff.mpr c5
    subst c5
    have H1 : (some false) = some r := by rw [if_neg (show ¬ (false = true) by decide)] at H; exact H
    clear H
    have H := H1
    clear H1
    obtain rfl := Option.some.inj H
    go_enter Try.func10, Try.ntmps10
    go_wp2_with (first | ((with_reducible refine gate_callee (f := 33) rfl ?_); refine goesL_ (some 11) rfl rfl Try.func33 (by kernel_rfl) rfl #[] rfl (by (try simp only [List.map_toArray, List.map_cons, List.map_nil]); first | done | rfl | (simp only [List.length_drop, List.length_take]; rfl)) ?_; (with_reducible refine (cadencelaw01_alive.calls k  false _ A4.out).mono ?_); rintro e w' ⟨rfl, ⟨nd, rfl⟩⟩; refine ⟨_, rfl, ?_⟩))
    go_ret
    exact ⟨by first | rfl | (simp; done) | (simp [*]; done), by repeat (first | exact Drawn0.refl _ | apply Drawn0.step)⟩

/-- THE ONE PURE STATEMENT of cadencelaw01_BitsTurns: yours. -/
def cadencelaw01_BitsTurns.Pure : Prop := ∀ (a0 : Int) (a1 : Int) (a2 : Int), (Lit.int .i64 a0).wf = true → (Lit.int .u64 a1).wf = true → (Lit.int .u64 a2).wf = true → ∃ k, cadencelaw01_BitsTurns.f k a0 a1 a2 = some true
theorem cadencelaw01_BitsTurns.walk (P : cadencelaw01_BitsTurns.Pure) (a0 : Int) (a1 : Int) (a2 : Int) (w : World) (w0 : (Lit.int .i64 a0).wf = true) (w1 : (Lit.int .u64 a1).wf = true) (w2 : (Lit.int .u64 a2).wf = true) :
    Calls Try.prog 10 #[.int .i64 a0, .int .u64 a1, .int .u64 a2] w fun e w' => e = .returned (.bool true) ∧ Below w.heap.size w w' := by
  obtain ⟨k, h⟩ := P a0 a1 a2 w0 w1 w2
  refine (cadencelaw01_BitsTurns.calls k a0 a1 a2 true w h).mono ?_
  rintro e w' ⟨rfl, hd⟩
  exact ⟨rfl, hd.below⟩

end Go.Proofs.Ytklnafmoihkbhaa.C
