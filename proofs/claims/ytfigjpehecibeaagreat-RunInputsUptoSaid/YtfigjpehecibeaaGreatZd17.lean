/- Texts joined by a program of mine: Lt Ul Um. -/
import Derived.Test.YtfigjpehecibeaaGreatZd12
import Derived.Test.YtfigjpehecibeaaGreatZd16
section
namespace Go.Proofs.YtfigjpehecibeaaGreat.L
open Go.RowKit Go.Proofs.YtfigjpehecibeaaGreatW.PrintWords Go.Proofs.YtfigjpehecibeaaGreatW.PrintLast Go.Proofs.YtfigjpehecibeaaGreatW.PrintMore Go.Proofs.YtfigjpehecibeaaGreat.Gr
set_option linter.unusedVariables false
set_option linter.unusedSimpArgs false
attribute [local go_sem] G.cell
theorem cap_step (s a C : Nat) : min (min (min s C + 1) C + a) C = min (s + (1 + a)) C := by omega
theorem cap_one (s C : Nat) : min (min s C + 1) C = min (s + (1 + 0)) C := by omega
theorem cap_if (s w a b C : Nat) : min (min (min s C + 1) C + (w + (min a C + min b C))) C = min (s + (1 + (w + a + b))) C := by omega
theorem cap_mul (n a C : Nat) (hC : 0 < C) : min (n * min (1 + min a C) C) C = min (n * (1 + a)) C := by
  rcases Nat.eq_zero_or_pos n with rfl | hn
  · simp
  · by_cases h : 1 + a ≤ C
    · rw [Nat.min_eq_left (show a ≤ C by omega), Nat.min_eq_left h]
    · have h1 : min (1 + min a C) C = C := by omega
      have h2 : C ≤ n * C := Nat.le_mul_of_pos_left C hn
      have h3 : C ≤ n * (1 + a) := Nat.le_trans h2 (Nat.mul_le_mul_left n (by omega))
      rw [h1, Nat.min_eq_right h2, Nat.min_eq_right h3]
theorem cap_for (s n a C : Nat) (hC : 0 < C) : min (min (min s C + 1) C + min (n * min (1 + min a C) C) C) C = min (s + (1 + n * (1 + a))) C := by
  rw [cap_mul n a C hC]
  generalize n * (1 + a) = z
  omega
theorem u64_in {z : Int} (h0 : 0 ≤ z) (h1 : z < 18446744073709551616) : IntKind.u64.wrap z = z := by simp only [IntKind.wrap, IntKind.bits, IntKind.signed, Bool.false_and, Bool.false_eq_true, if_false]; omega
theorem timesZ_calls (z : Int) (n s r : Nat) (hz : z = n) (hn : n < 18446744073709551616) (hs : s ≤ 1099511627776) (hr : r = min (n * s) 1099511627776) (w : World) :
    Calls Tryz.prog 157 #[.int .u64 z, .int .i64 s] w fun e w' => e = .returned (.int .i64 (r : Int)) ∧ Below w.heap.size w w' := by subst hz; exact times_calls n s r hn hs hr w
theorem le_of2 {a b n : Nat} (h1 : a ≤ n) (h2 : b ≤ n) : ∀ x ∈ [a, b], x ≤ n := by intro x hx; rcases List.mem_cons.1 hx with rfl | hx; exact h1; rcases List.mem_cons.1 hx with rfl | hx; exact h2; cases hx
theorem le_of3 {a b c n : Nat} (h1 : a ≤ n) (h2 : b ≤ n) (h3 : c ≤ n) : ∀ x ∈ [a, b, c], x ≤ n := by intro x hx; rcases List.mem_cons.1 hx with rfl | hx; exact h1; exact le_of2 h2 h3 x hx
theorem le_of4 {a b c d n : Nat} (h1 : a ≤ n) (h2 : b ≤ n) (h3 : c ≤ n) (h4 : d ≤ n) : ∀ x ∈ [a, b, c, d], x ≤ n := by intro x hx; rcases List.mem_cons.1 hx with rfl | hx; exact h1; exact le_of3 h2 h3 h4 x hx
set_option maxHeartbeats 4000000 in
set_option maxRecDepth 100000 in
theorem size_walk (l : List S119) (hg : ∀ x ∈ l, 0 ≤ x.f4 ∧ 0 ≤ x.f5 ∧ x.f4 < 18446744073709551616 ∧ x.f5 < 18446744073709551616 ∧ weightE x.f2 ≤ 1099511627776 ∧ weightE x.f3 ≤ 1099511627776) (ih : ∀ x ∈ l, SizeC 114 1099511627776 x.f6 ∧ SizeC 114 1099511627776 x.f7) : SizeC 114 1099511627776 l := by
  intro A c w hc hl
  have IH := Aside0.mk ih
  have HC := Aside0.mk hc
  have GD := Aside0.mk hg
  have hlm := hc.2.1
  clear ih hc hg
  go_enter Tryz.func114, Tryz.ntmps114
  go_wp2
  go_loopw [8, 3] (fun i n W => ∃ (k : Nat) (g : G w), i = .int .i64 k ∧ (∃ m : Nat, n = .int .i64 m ∧ m = min (sizeB (l.take k)) 1099511627776) ∧ W = g.W ∧ k ≤ l.length) (fun i n _ => l.length - (intOf i).toNat)
  case atStart => exact ⟨0, ⟨w, Below.refl _ _⟩, rfl, ⟨0, rfl, by simp [sizeB]⟩, rfl, Nat.zero_le _⟩
  case round =>
    obtain ⟨k, g, rfl, ⟨m, rfl, hm⟩, rfl, hk⟩ := hrel
    by_cases hlt : k < l.length
    · obtain ⟨ad, A5, c5, A9, c9, A12, c12, A13, c13, e1, q0, q1, q2, q3, q4, q5, q6, q7, q8, q9, q10, q11, q12, q13, l5, g5, l9, g9, l12, g12, l13, g13⟩ := at_T119 HC.out (k : Int) (Int.natCast_nonneg _) (by omega)
      cases e1
      rw [Int.toNat_natCast] at q0 q1 q2 q3 q4 q5 q6 q7 q8 q9 q10 q11 q12 q13
      replace q0 := (g.below.cell (World.block_lt_of_cell? w _ q0)).trans q0
      replace q1 := (g.below.cell (World.block_lt_of_cell? w _ q1)).trans q1
      replace q2 := (g.below.cell (World.block_lt_of_cell? w _ q2)).trans q2
      replace q3 := (g.below.cell (World.block_lt_of_cell? w _ q3)).trans q3
      replace q4 := (g.below.cell (World.block_lt_of_cell? w _ q4)).trans q4
      replace q5 := (g.below.cell (World.block_lt_of_cell? w _ q5)).trans q5
      replace q6 := (g.below.cell (World.block_lt_of_cell? w _ q6)).trans q6
      replace q7 := (g.below.cell (World.block_lt_of_cell? w _ q7)).trans q7
      replace q8 := (g.below.cell (World.block_lt_of_cell? w _ q8)).trans q8
      replace q9 := (g.below.cell (World.block_lt_of_cell? w _ q9)).trans q9
      replace q10 := (g.below.cell (World.block_lt_of_cell? w _ q10)).trans q10
      replace q11 := (g.below.cell (World.block_lt_of_cell? w _ q11)).trans q11
      replace q12 := (g.below.cell (World.block_lt_of_cell? w _ q12)).trans q12
      replace q13 := (g.below.cell (World.block_lt_of_cell? w _ q13)).trans q13
      have hi1 : (k : Int) < (l.length : Int) := by omega
      have K := Aside0.mk (And.intro l5 (And.intro g5 (And.intro l9 (And.intro g9 (And.intro l12 (And.intro g12 (And.intro l13 g13)))))))
      clear l5 g5 l9 g9 l12 g12 l13 g13
      have MEM := rd77_mem' hlt
      have T := congrArg sizeB (take_rd119 hlt)
      rw [sizeB_add, sizeT_eq] at T
      have GD1 := Aside0.mk (GD.out _ MEM)
      have IH1 := Aside0.mk (IH.out _ MEM)
      clear MEM
      generalize rd_T119 l (k : Int) = x at *
      obtain ⟨m1, hm1⟩ : ∃ r, r = min [m, 1].sum 1099511627776 := ⟨_, rfl⟩
      have hm1' : m1 = min (m + 1) 1099511627776 := by simpa using hm1
      have M := Aside0.mk (And.intro hm (And.intro hm1' (And.intro T hm1)))
      have hmb := Aside0.mk (show m ≤ 1099511627776 ∧ m1 ≤ 1099511627776 from ⟨by rw [hm]; exact Nat.min_le_right _ _, by rw [hm1]; exact Nat.min_le_right _ _⟩)
      clear hm hm1 hm1' T
      have kk : x.f0 = 1 ∨ x.f0 = 2 ∨ x.f0 = 3 ∨ x.f0 = 4 ∨ (¬ x.f0 = 1 ∧ ¬ x.f0 = 2 ∧ ¬ x.f0 = 3 ∧ ¬ x.f0 = 4) := by omega
      rcases kk with h0 | h0 | h0 | h0 | ⟨h1, h2, h3, h4⟩
      · rw [h0] at q0
        have H0 := Aside0.mk h0
        clear h0
        go_upto_region 5 with (fail)
        refine wp_grown0 ?_
        intro gg
        go_wp2_with fail
        refine (call_of_alloc (g := gg) (plusN_calls [m, 1] m1 M.out.2.2.2 (le_of2 hmb.out.1 (by omega)) (by simp) (some ⟨gg.W.heap.size, 0, none⟩) 2 _ (lit_nats _ [m, 1] 3 (by simp)) (by simp))).mono ?_
        rintro _ _ ⟨rfl, gg, rfl⟩
        go_wp2_with fail
        refine (call_of (g := gg) (weigh_v GD1.out.2.2.2.2.2 A9 c9 gg.W (Kd.C_below K.out.2.2.2.1 (G.deep (g := g) gg)) K.out.2.2.1)).mono ?_
        rintro _ _ ⟨rfl, gg, rfl⟩
        go_wp2_with fail
        obtain ⟨m2, hm2⟩ : ∃ r, r = min [m1, weightE x.f3].sum 1099511627776 := ⟨_, rfl⟩
        have HM2 := Aside0.mk hm2
        clear hm2
        refine (call_of_alloc (g := gg) (plusN_calls [m1, weightE x.f3] m2 HM2.out (le_of2 hmb.out.2 GD1.out.2.2.2.2.2) (by simp) (some ⟨gg.W.heap.size, 0, none⟩) 2 _ (lit_nats _ [m1, weightE x.f3] 3 (by simp)) (by simp))).mono ?_
        rintro _ _ ⟨rfl, gg, rfl⟩
        go_wp2_with fail
        refine ⟨⟨k + 1, mkG (G.deep (g := g) gg), by go_num, ⟨m2, rfl, ?_⟩, rfl, by omega⟩, by simp [intOf]; omega⟩
        obtain ⟨e1, e2, e3, _⟩ := M.out
        have e4 : m2 = min (m1 + weightE x.f3) 1099511627776 := by simpa using HM2.out
        rw [e3, H0.out, if_pos rfl, e4, e2, e1]
        exact cap_step _ _ _
      · rw [h0] at q0
        have H0 := Aside0.mk h0
        clear h0
        go_upto_region 5 with (fail)
        refine wp_grown0 ?_
        intro gg
        go_wp2_with fail
        refine (call_of_alloc (g := gg) (plusN_calls [m, 1] m1 M.out.2.2.2 (le_of2 hmb.out.1 (by omega)) (by simp) (some ⟨gg.W.heap.size, 0, none⟩) 2 _ (lit_nats _ [m, 1] 3 (by simp)) (by simp))).mono ?_
        rintro _ _ ⟨rfl, gg, rfl⟩
        obtain ⟨m2, hm2⟩ : ∃ r, r = min [m1, weightE x.f2, weightE x.f3].sum 1099511627776 := ⟨_, rfl⟩
        have HM2 := Aside0.mk hm2
        clear hm2
        go_upto_region 10 with (fail)
        refine start_ (n := 10) (S := fun w' => ∃ g' : G _, w' = g'.W) (ds := []) #[false, false, false, false, false, false, false, false, false, false] (by kernel_rfl) rfl rfl ⟨mkG (gg.2.drew), rfl⟩ (fun hHeld => ?_)
        obtain ⟨gd, hgd⟩ := hHeld
        rw [hgd]
        clear hgd
        refine pure_ (i := 0) (N := some 27) (v := ?_) (a' := ?_) #[true, false, false, false, false, false, false, false, false, false] rfl rfl (by kernel_rfl) (fun _ _ _ h => h) (Or.inl ⟨by rfl, ?_⟩) ?_ ?_
        rotate_left
        · intro w'
          go_simp
          with_reducible rfl
        rotate_left
        · simp only [Act.put, List.setIfInBounds_toArray, List.set_cons_zero, List.set_cons_succ, i64_w, i32_w]
          rfl
        refine pure_ (i := 1) (N := some 28) (v := ?_) (a' := ?_) #[true, true, false, false, false, false, false, false, false, false] rfl rfl (by kernel_rfl) (fun _ _ _ h => h) (Or.inl ⟨by rfl, ?_⟩) ?_ ?_
        rotate_left
        · intro w'
          go_simp
          with_reducible rfl
        rotate_left
        · simp only [Act.put, List.setIfInBounds_toArray, List.set_cons_zero, List.set_cons_succ, i64_w, i32_w]
          rfl
        refine pure_ (i := 4) (N := some 31) (v := ?_) (a' := ?_) #[true, true, false, false, true, false, false, false, false, false] rfl rfl (by kernel_rfl) (fun _ _ _ h => h) (Or.inl ⟨by rfl, ?_⟩) ?_ ?_
        rotate_left
        · intro w'
          go_simp
          with_reducible rfl
        rotate_left
        · simp only [Act.put, List.setIfInBounds_toArray, List.set_cons_zero, List.set_cons_succ, i64_w, i32_w]
          rfl
        refine take_ (i := 2) (N := some 29) (v := ?_) (a' := ?_) #[true, true, true, false, true, false, false, false, false, false] rfl rfl (by kernel_rfl) (fun _ _ _ h => h) (Or.inl ⟨by rfl, ?_⟩) ⟨gd, rfl⟩ ?_ ?_
        rotate_left
        · rintro w' ⟨g', rfl⟩
          go_simp
          with_reducible rfl
        rotate_left
        · simp only [Act.put, List.setIfInBounds_toArray, List.set_cons_zero, List.set_cons_succ, i64_w, i32_w]
          rfl
        refine take_ (i := 5) (N := some 32) (v := ?_) (a' := ?_) #[true, true, true, false, true, true, false, false, false, false] rfl rfl (by kernel_rfl) (fun _ _ _ h => h) (Or.inl ⟨by rfl, ?_⟩) ⟨gd, rfl⟩ ?_ ?_
        rotate_left
        · rintro w' ⟨g', rfl⟩
          go_simp
          with_reducible rfl
        rotate_left
        · simp only [Act.put, List.setIfInBounds_toArray, List.set_cons_zero, List.set_cons_succ, i64_w, i32_w]
          rfl
        refine one_ (i := 3) (N := some 30) #[true, true, true, true, true, true, false, false, false, false] rfl rfl (by kernel_rfl) (by simp) (fun Kr hKr => ?_)
        refine goes_ Tryz.func156 (by kernel_rfl) rfl #[.agg #[.int .i64 x.f2.f0, .int .u64 x.f2.f1, .string x.f2.f2, .slice A5 x.f2.f3.length c5]] (by rfl) rfl rfl (by (try simp only [List.map_toArray, List.map_cons, List.map_nil]); first | done | rfl) ?_
        refine (weigh_v GD1.out.2.2.2.2.1 A5 c5 gd.W (Kd.C_below K.out.2.1 (G.deep (g := g) gd)) K.out.1).mono ?_
        rintro _ w9 ⟨rfl, hb⟩
        refine ⟨_, rfl, ?_⟩
        obtain ⟨gd, rfl⟩ : ∃ g' : G _, w9 = g'.W := ⟨mkG (gd.below.trans (hb.mono gd.below.size)), rfl⟩
        clear hb
        refine hKr.out _ _ ⟨gd, rfl⟩ (fun _ => ?_)
        clear hKr Kr
        refine norm_ (a' := ?_) ?_ ?_
        rotate_left
        · show Act.put _ (some 30) _ = _
          simp only [Act.put, List.setIfInBounds_toArray, List.set_cons_zero, List.set_cons_succ, i64_w, i32_w]
          rfl
        refine one_ (i := 6) (N := some 33) #[true, true, true, true, true, true, true, false, false, false] rfl rfl (by kernel_rfl) (by simp) (fun Kr hKr => ?_)
        refine goes_ Tryz.func156 (by kernel_rfl) rfl #[.agg #[.int .i64 x.f3.f0, .int .u64 x.f3.f1, .string x.f3.f2, .slice A9 x.f3.f3.length c9]] (by rfl) rfl rfl (by (try simp only [List.map_toArray, List.map_cons, List.map_nil]); first | done | rfl) ?_
        refine (weigh_v GD1.out.2.2.2.2.2 A9 c9 gd.W (Kd.C_below K.out.2.2.2.1 (G.deep (g := g) gd)) K.out.2.2.1).mono ?_
        rintro _ w9 ⟨rfl, hb⟩
        refine ⟨_, rfl, ?_⟩
        obtain ⟨gd, rfl⟩ : ∃ g' : G _, w9 = g'.W := ⟨mkG (gd.below.trans (hb.mono gd.below.size)), rfl⟩
        clear hb
        refine hKr.out _ _ ⟨gd, rfl⟩ (fun _ => ?_)
        clear hKr Kr
        refine norm_ (a' := ?_) ?_ ?_
        rotate_left
        · show Act.put _ (some 33) _ = _
          simp only [Act.put, List.setIfInBounds_toArray, List.set_cons_zero, List.set_cons_succ, i64_w, i32_w]
          rfl
        refine one_ (i := 7) (N := some 34) #[true, true, true, true, true, true, true, true, false, false] rfl rfl (by kernel_rfl) (by simp) (fun Kr hKr => ?_)
        refine event_step (v := .slice (some ⟨gd.W.heap.size, 0, none⟩) 3 3) (w1 := gd.W.alloc (.cells #[.int .i64 (m1 : Int), .int .i64 ((weightE x.f2 : Nat) : Int), .int .i64 ((weightE x.f3 : Nat) : Int)] 3)) (by rfl) (by first | (go_simp; done) | (go_simp; rfl)) ?_
        refine hKr.out _ _ ⟨mkG (G.ball gd _), rfl⟩ (fun _ => ?_)
        clear hKr Kr
        refine norm_ (a' := ?_) ?_ ?_
        rotate_left
        · show Act.put _ (some 34) _ = _
          simp only [Act.put, List.setIfInBounds_toArray, List.set_cons_zero, List.set_cons_succ, i64_w, i32_w]
          rfl
        refine one_ (i := 8) (N := some 35) #[true, true, true, true, true, true, true, true, true, false] rfl rfl (by kernel_rfl) (by simp) (fun Kr hKr => ?_)
        refine goes_ Tryz.func155 (by kernel_rfl) rfl #[.slice (some ⟨gd.W.heap.size, 0, none⟩) 3 3] (by rfl) rfl rfl (by (try simp only [List.map_toArray, List.map_cons, List.map_nil]); first | done | rfl) ?_
        refine (plusN_calls [m1, weightE x.f2, weightE x.f3] m2 HM2.out (le_of3 hmb.out.2 GD1.out.2.2.2.2.1 GD1.out.2.2.2.2.2) (by simp) (some ⟨gd.W.heap.size, 0, none⟩) 3 _ (lit_nats _ [m1, weightE x.f2, weightE x.f3] 3 (by simp)) (by simp)).mono ?_
        rintro _ w9 ⟨rfl, hb⟩
        refine ⟨_, rfl, ?_⟩
        obtain ⟨gd, rfl⟩ : ∃ g' : G _, w9 = g'.W := ⟨mkG ((G.ball gd _).trans (hb.mono (G.ball gd _).size)), rfl⟩
        clear hb
        refine hKr.out _ _ ⟨gd, rfl⟩ (fun _ => ?_)
        clear hKr Kr
        refine norm_ (a' := ?_) ?_ ?_
        rotate_left
        · show Act.put _ (some 35) _ = _
          simp only [Act.put, List.setIfInBounds_toArray, List.set_cons_zero, List.set_cons_succ, i64_w, i32_w]
          rfl
        refine pure_ (i := 9) (N := some 3) (v := ?_) (a' := ?_) #[true, true, true, true, true, true, true, true, true, true] rfl rfl (by kernel_rfl) (fun _ _ _ h => h) (Or.inl ⟨by rfl, ?_⟩) ?_ ?_
        rotate_left
        · intro w'
          go_simp
          with_reducible rfl
        rotate_left
        · simp only [Act.put, List.setIfInBounds_toArray, List.set_cons_zero, List.set_cons_succ, i64_w, i32_w]
          rfl
        refine done_ (by kernel_rfl) ?_
        go_wp2_with fail
        refine ⟨⟨k + 1, mkG (G.deep (g := g) gd), by go_num, ⟨m2, rfl, ?_⟩, rfl, by omega⟩, by simp [intOf]; omega⟩
        obtain ⟨e1, e2, e3, _⟩ := M.out
        have e4 : m2 = min (m1 + (weightE x.f2 + weightE x.f3)) 1099511627776 := by simpa using HM2.out
        rw [e3, H0.out, if_neg (by decide), if_pos rfl, e4, e2, e1]
        exact cap_step _ _ _
      · rw [h0] at q0
        have H0 := Aside0.mk h0
        clear h0
        go_upto_region 5 with (fail)
        refine wp_grown0 ?_
        intro gg
        go_wp2_with fail
        refine (call_of_alloc (g := gg) (plusN_calls [m, 1] m1 M.out.2.2.2 (le_of2 hmb.out.1 (by omega)) (by simp) (some ⟨gg.W.heap.size, 0, none⟩) 2 _ (lit_nats _ [m, 1] 3 (by simp)) (by simp))).mono ?_
        rintro _ _ ⟨rfl, gg, rfl⟩
        obtain ⟨s1, hs1⟩ : ∃ r, r = min (sizeB x.f6) 1099511627776 := ⟨_, rfl⟩
        obtain ⟨s2, hs2⟩ : ∃ r, r = min (sizeB x.f7) 1099511627776 := ⟨_, rfl⟩
        obtain ⟨m2, hm2⟩ : ∃ r, r = min [m1, weightE x.f3, s1, s2].sum 1099511627776 := ⟨_, rfl⟩
        have SB := Aside0.mk (show s1 ≤ 1099511627776 ∧ s2 ≤ 1099511627776 from ⟨by rw [hs1]; exact Nat.min_le_right _ _, by rw [hs2]; exact Nat.min_le_right _ _⟩)
        have HM2 := Aside0.mk (And.intro hm2 (And.intro hs1 hs2))
        clear hm2 hs1 hs2
        go_upto_region 12 with (fail)
        refine start_ (n := 13) (S := fun w' => ∃ g' : G _, w' = g'.W) (ds := []) #[false, false, false, false, false, false, false, false, false, false, false, false, false] (by kernel_rfl) rfl rfl ⟨mkG (gg.2.drew), rfl⟩ (fun hHeld => ?_)
        obtain ⟨gd, hgd⟩ := hHeld
        rw [hgd]
        clear hgd
        refine pure_ (i := 0) (N := some 38) (v := ?_) (a' := ?_) #[true, false, false, false, false, false, false, false, false, false, false, false, false] rfl rfl (by kernel_rfl) (fun _ _ _ h => h) (Or.inl ⟨by rfl, ?_⟩) ?_ ?_
        rotate_left
        · intro w'
          go_simp
          with_reducible rfl
        rotate_left
        · simp only [Act.put, List.setIfInBounds_toArray, List.set_cons_zero, List.set_cons_succ, i64_w, i32_w]
          rfl
        refine pure_ (i := 1) (N := some 39) (v := ?_) (a' := ?_) #[true, true, false, false, false, false, false, false, false, false, false, false, false] rfl rfl (by kernel_rfl) (fun _ _ _ h => h) (Or.inl ⟨by rfl, ?_⟩) ?_ ?_
        rotate_left
        · intro w'
          go_simp
          with_reducible rfl
        rotate_left
        · simp only [Act.put, List.setIfInBounds_toArray, List.set_cons_zero, List.set_cons_succ, i64_w, i32_w]
          rfl
        refine pure_ (i := 4) (N := some 42) (v := ?_) (a' := ?_) #[true, true, false, false, true, false, false, false, false, false, false, false, false] rfl rfl (by kernel_rfl) (fun _ _ _ h => h) (Or.inl ⟨by rfl, ?_⟩) ?_ ?_
        rotate_left
        · intro w'
          go_simp
          with_reducible rfl
        rotate_left
        · simp only [Act.put, List.setIfInBounds_toArray, List.set_cons_zero, List.set_cons_succ, i64_w, i32_w]
          rfl
        refine pure_ (i := 7) (N := some 45) (v := ?_) (a' := ?_) #[true, true, false, false, true, false, false, true, false, false, false, false, false] rfl rfl (by kernel_rfl) (fun _ _ _ h => h) (Or.inl ⟨by rfl, ?_⟩) ?_ ?_
        rotate_left
        · intro w'
          go_simp
          with_reducible rfl
        rotate_left
        · simp only [Act.put, List.setIfInBounds_toArray, List.set_cons_zero, List.set_cons_succ, i64_w, i32_w]
          rfl
        refine take_ (i := 2) (N := some 40) (v := ?_) (a' := ?_) #[true, true, true, false, true, false, false, true, false, false, false, false, false] rfl rfl (by kernel_rfl) (fun _ _ _ h => h) (Or.inl ⟨by rfl, ?_⟩) ⟨gd, rfl⟩ ?_ ?_
        rotate_left
        · rintro w' ⟨g', rfl⟩
          go_simp
          with_reducible rfl
        rotate_left
        · simp only [Act.put, List.setIfInBounds_toArray, List.set_cons_zero, List.set_cons_succ, i64_w, i32_w]
          rfl
        refine take_ (i := 5) (N := some 43) (v := ?_) (a' := ?_) #[true, true, true, false, true, true, false, true, false, false, false, false, false] rfl rfl (by kernel_rfl) (fun _ _ _ h => h) (Or.inl ⟨by rfl, ?_⟩) ⟨gd, rfl⟩ ?_ ?_
        rotate_left
        · rintro w' ⟨g', rfl⟩
          go_simp
          with_reducible rfl
        rotate_left
        · simp only [Act.put, List.setIfInBounds_toArray, List.set_cons_zero, List.set_cons_succ, i64_w, i32_w]
          rfl
        refine take_ (i := 8) (N := some 46) (v := ?_) (a' := ?_) #[true, true, true, false, true, true, false, true, true, false, false, false, false] rfl rfl (by kernel_rfl) (fun _ _ _ h => h) (Or.inl ⟨by rfl, ?_⟩) ⟨gd, rfl⟩ ?_ ?_
        rotate_left
        · rintro w' ⟨g', rfl⟩
          go_simp
          with_reducible rfl
        rotate_left
        · simp only [Act.put, List.setIfInBounds_toArray, List.set_cons_zero, List.set_cons_succ, i64_w, i32_w]
          rfl
        refine one_ (i := 3) (N := some 41) #[true, true, true, true, true, true, false, true, true, false, false, false, false] rfl rfl (by kernel_rfl) (by simp) (fun Kr hKr => ?_)
        refine goes_ Tryz.func156 (by kernel_rfl) rfl #[.agg #[.int .i64 x.f3.f0, .int .u64 x.f3.f1, .string x.f3.f2, .slice A9 x.f3.f3.length c9]] (by rfl) rfl rfl (by (try simp only [List.map_toArray, List.map_cons, List.map_nil]); first | done | rfl) ?_
        refine (weigh_v GD1.out.2.2.2.2.2 A9 c9 gd.W (Kd.C_below K.out.2.2.2.1 (G.deep (g := g) gd)) K.out.2.2.1).mono ?_
        rintro _ w9 ⟨rfl, hb⟩
        refine ⟨_, rfl, ?_⟩
        obtain ⟨gd, rfl⟩ : ∃ g' : G _, w9 = g'.W := ⟨mkG (gd.below.trans (hb.mono gd.below.size)), rfl⟩
        clear hb
        refine hKr.out _ _ ⟨gd, rfl⟩ (fun _ => ?_)
        clear hKr Kr
        refine norm_ (a' := ?_) ?_ ?_
        rotate_left
        · show Act.put _ (some 41) _ = _
          simp only [Act.put, List.setIfInBounds_toArray, List.set_cons_zero, List.set_cons_succ, i64_w, i32_w]
          rfl
        refine one_ (i := 6) (N := some 44) #[true, true, true, true, true, true, true, true, true, false, false, false, false] rfl rfl (by kernel_rfl) (by simp) (fun Kr hKr => ?_)
        refine goes_ Tryz.func114 (by kernel_rfl) rfl #[.slice A12 x.f6.length c12] (by rfl) rfl rfl (by (try simp only [List.map_toArray, List.map_cons, List.map_nil]); first | done | rfl) ?_
        refine (size_v IH1.out.1 HM2.out.2.1 A12 c12 gd.W (Kd.C_below K.out.2.2.2.2.2.1 (G.deep (g := g) gd)) K.out.2.2.2.2.1).mono ?_
        rintro _ w9 ⟨rfl, hb⟩
        refine ⟨_, rfl, ?_⟩
        obtain ⟨gd, rfl⟩ : ∃ g' : G _, w9 = g'.W := ⟨mkG (gd.below.trans (hb.mono gd.below.size)), rfl⟩
        clear hb
        refine hKr.out _ _ ⟨gd, rfl⟩ (fun _ => ?_)
        clear hKr Kr
        refine norm_ (a' := ?_) ?_ ?_
        rotate_left
        · show Act.put _ (some 44) _ = _
          simp only [Act.put, List.setIfInBounds_toArray, List.set_cons_zero, List.set_cons_succ, i64_w, i32_w]
          rfl
        refine one_ (i := 9) (N := some 47) #[true, true, true, true, true, true, true, true, true, true, false, false, false] rfl rfl (by kernel_rfl) (by simp) (fun Kr hKr => ?_)
        refine goes_ Tryz.func114 (by kernel_rfl) rfl #[.slice A13 x.f7.length c13] (by rfl) rfl rfl (by (try simp only [List.map_toArray, List.map_cons, List.map_nil]); first | done | rfl) ?_
        refine (size_v IH1.out.2 HM2.out.2.2 A13 c13 gd.W (Kd.C_below K.out.2.2.2.2.2.2.2 (G.deep (g := g) gd)) K.out.2.2.2.2.2.2.1).mono ?_
        rintro _ w9 ⟨rfl, hb⟩
        refine ⟨_, rfl, ?_⟩
        obtain ⟨gd, rfl⟩ : ∃ g' : G _, w9 = g'.W := ⟨mkG (gd.below.trans (hb.mono gd.below.size)), rfl⟩
        clear hb
        refine hKr.out _ _ ⟨gd, rfl⟩ (fun _ => ?_)
        clear hKr Kr
        refine norm_ (a' := ?_) ?_ ?_
        rotate_left
        · show Act.put _ (some 47) _ = _
          simp only [Act.put, List.setIfInBounds_toArray, List.set_cons_zero, List.set_cons_succ, i64_w, i32_w]
          rfl
        refine one_ (i := 10) (N := some 48) #[true, true, true, true, true, true, true, true, true, true, true, false, false] rfl rfl (by kernel_rfl) (by simp) (fun Kr hKr => ?_)
        refine event_step (v := .slice (some ⟨gd.W.heap.size, 0, none⟩) 4 4) (w1 := gd.W.alloc (.cells #[.int .i64 (m1 : Int), .int .i64 ((weightE x.f3 : Nat) : Int), .int .i64 ((s1 : Nat) : Int), .int .i64 ((s2 : Nat) : Int)] 3)) (by rfl) (by first | (go_simp; done) | (go_simp; rfl)) ?_
        refine hKr.out _ _ ⟨mkG (G.ball gd _), rfl⟩ (fun _ => ?_)
        clear hKr Kr
        refine norm_ (a' := ?_) ?_ ?_
        rotate_left
        · show Act.put _ (some 48) _ = _
          simp only [Act.put, List.setIfInBounds_toArray, List.set_cons_zero, List.set_cons_succ, i64_w, i32_w]
          rfl
        refine one_ (i := 11) (N := some 49) #[true, true, true, true, true, true, true, true, true, true, true, true, false] rfl rfl (by kernel_rfl) (by simp) (fun Kr hKr => ?_)
        refine goes_ Tryz.func155 (by kernel_rfl) rfl #[.slice (some ⟨gd.W.heap.size, 0, none⟩) 4 4] (by rfl) rfl rfl (by (try simp only [List.map_toArray, List.map_cons, List.map_nil]); first | done | rfl) ?_
        refine (plusN_calls [m1, weightE x.f3, s1, s2] m2 HM2.out.1 (le_of4 hmb.out.2 GD1.out.2.2.2.2.2 SB.out.1 SB.out.2) (by simp) (some ⟨gd.W.heap.size, 0, none⟩) 4 _ (lit_nats _ [m1, weightE x.f3, s1, s2] 3 (by simp)) (by simp)).mono ?_
        rintro _ w9 ⟨rfl, hb⟩
        refine ⟨_, rfl, ?_⟩
        obtain ⟨gd, rfl⟩ : ∃ g' : G _, w9 = g'.W := ⟨mkG ((G.ball gd _).trans (hb.mono (G.ball gd _).size)), rfl⟩
        clear hb
        refine hKr.out _ _ ⟨gd, rfl⟩ (fun _ => ?_)
        clear hKr Kr
        refine norm_ (a' := ?_) ?_ ?_
        rotate_left
        · show Act.put _ (some 49) _ = _
          simp only [Act.put, List.setIfInBounds_toArray, List.set_cons_zero, List.set_cons_succ, i64_w, i32_w]
          rfl
        refine pure_ (i := 12) (N := some 3) (v := ?_) (a' := ?_) #[true, true, true, true, true, true, true, true, true, true, true, true, true] rfl rfl (by kernel_rfl) (fun _ _ _ h => h) (Or.inl ⟨by rfl, ?_⟩) ?_ ?_
        rotate_left
        · intro w'
          go_simp
          with_reducible rfl
        rotate_left
        · simp only [Act.put, List.setIfInBounds_toArray, List.set_cons_zero, List.set_cons_succ, i64_w, i32_w]
          rfl
        refine done_ (by kernel_rfl) ?_
        go_wp2_with fail
        refine ⟨⟨k + 1, mkG (G.deep (g := g) gd), by go_num, ⟨m2, rfl, ?_⟩, rfl, by omega⟩, by simp [intOf]; omega⟩
        obtain ⟨e1, e2, e3, _⟩ := M.out
        have e4 : m2 = min (m1 + (weightE x.f3 + (s1 + s2))) 1099511627776 := by simpa using HM2.out.1
        rw [e3, H0.out, if_neg (by decide), if_neg (by decide), if_pos rfl, e4, e2, e1, HM2.out.2.1, HM2.out.2.2]
        exact cap_if _ _ _ _ _
      · rw [h0] at q0
        have H0 := Aside0.mk h0
        clear h0
        go_upto_region 5 with (fail)
        refine wp_grown0 ?_
        intro gg
        go_wp2_with fail
        refine (call_of_alloc (g := gg) (plusN_calls [m, 1] m1 M.out.2.2.2 (le_of2 hmb.out.1 (by omega)) (by simp) (some ⟨gg.W.heap.size, 0, none⟩) 2 _ (lit_nats _ [m, 1] 3 (by simp)) (by simp))).mono ?_
        rintro _ _ ⟨rfl, gg, rfl⟩
        rcases Int.lt_or_le x.f4 x.f5 with hlo | hlo
        · obtain ⟨s1, hs1⟩ : ∃ r, r = min (sizeB x.f6) 1099511627776 := ⟨_, rfl⟩
          obtain ⟨q, hq⟩ : ∃ r, r = min [1, s1].sum 1099511627776 := ⟨_, rfl⟩
          obtain ⟨nn, hnn⟩ : ∃ n, n = (x.f5 - x.f4).toNat := ⟨_, rfl⟩
          obtain ⟨tt, htt⟩ : ∃ r, r = min (nn * q) 1099511627776 := ⟨_, rfl⟩
          obtain ⟨m2, hm2⟩ : ∃ r, r = min [m1, tt].sum 1099511627776 := ⟨_, rfl⟩
          have SB := Aside0.mk (show s1 ≤ 1099511627776 ∧ q ≤ 1099511627776 from ⟨by rw [hs1]; exact Nat.min_le_right _ _, by rw [hq]; exact Nat.min_le_right _ _⟩)
          have hz : IntKind.u64.wrap (x.f5 - x.f4) = (nn : Int) := by have := GD1.out; rw [u64_in (by omega) (by omega), hnn]; omega
          have hn : nn < 18446744073709551616 := by have := GD1.out; omega
          have HM2 := Aside0.mk (And.intro hm2 (And.intro hs1 (And.intro hq (And.intro htt (And.intro hz hn)))))
          have HNN := Aside0.mk hnn
          clear hm2 hs1 hq htt hz hn hnn
          have hlo' : x.f5 > x.f4 := hlo
          go_upto_region 15 with (fail)
          refine start_ (n := 15) (S := fun w' => ∃ g' : G _, w' = g'.W) (ds := []) #[false, false, false, false, false, false, false, false, false, false, false, false, false, false, false] (by kernel_rfl) rfl rfl ⟨mkG (gg.2.drew), rfl⟩ (fun hHeld => ?_)
          obtain ⟨gd, hgd⟩ := hHeld
          rw [hgd]
          clear hgd
          refine pure_ (i := 0) (N := some 57) (v := ?_) (a' := ?_) #[true, false, false, false, false, false, false, false, false, false, false, false, false, false, false] rfl rfl (by kernel_rfl) (fun _ _ _ h => h) (Or.inl ⟨by rfl, ?_⟩) ?_ ?_
          rotate_left
          · intro w'
            go_simp
            with_reducible rfl
          rotate_left
          · simp only [Act.put, List.setIfInBounds_toArray, List.set_cons_zero, List.set_cons_succ, i64_w, i32_w]
            rfl
          refine pure_ (i := 1) (N := some 58) (v := ?_) (a' := ?_) #[true, true, false, false, false, false, false, false, false, false, false, false, false, false, false] rfl rfl (by kernel_rfl) (fun _ _ _ h => h) (Or.inl ⟨by rfl, ?_⟩) ?_ ?_
          rotate_left
          · intro w'
            go_simp
            with_reducible rfl
          rotate_left
          · simp only [Act.put, List.setIfInBounds_toArray, List.set_cons_zero, List.set_cons_succ, i64_w, i32_w]
            rfl
          refine pure_ (i := 3) (N := some 60) (v := ?_) (a' := ?_) #[true, true, false, true, false, false, false, false, false, false, false, false, false, false, false] rfl rfl (by kernel_rfl) (fun _ _ _ h => h) (Or.inl ⟨by rfl, ?_⟩) ?_ ?_
          rotate_left
          · intro w'
            go_simp
            with_reducible rfl
          rotate_left
          · simp only [Act.put, List.setIfInBounds_toArray, List.set_cons_zero, List.set_cons_succ, i64_w, i32_w]
            rfl
          refine pure_ (i := 6) (N := some 63) (v := ?_) (a' := ?_) #[true, true, false, true, false, false, true, false, false, false, false, false, false, false, false] rfl rfl (by kernel_rfl) (fun _ _ _ h => h) (Or.inl ⟨by rfl, ?_⟩) ?_ ?_
          rotate_left
          · intro w'
            go_simp
            with_reducible rfl
          rotate_left
          · simp only [Act.put, List.setIfInBounds_toArray, List.set_cons_zero, List.set_cons_succ, i64_w, i32_w]
            rfl
          refine take_ (i := 2) (N := some 59) (v := ?_) (a' := ?_) #[true, true, true, true, false, false, true, false, false, false, false, false, false, false, false] rfl rfl (by kernel_rfl) (fun _ _ _ h => h) (Or.inl ⟨by rfl, ?_⟩) ⟨gd, rfl⟩ ?_ ?_
          rotate_left
          · rintro w' ⟨g', rfl⟩
            go_simp
            with_reducible rfl
          rotate_left
          · simp only [Act.put, List.setIfInBounds_toArray, List.set_cons_zero, List.set_cons_succ, i64_w, i32_w]
            rfl
          refine take_ (i := 4) (N := some 61) (v := ?_) (a' := ?_) #[true, true, true, true, true, false, true, false, false, false, false, false, false, false, false] rfl rfl (by kernel_rfl) (fun _ _ _ h => h) (Or.inl ⟨by rfl, ?_⟩) ⟨gd, rfl⟩ ?_ ?_
          rotate_left
          · rintro w' ⟨g', rfl⟩
            go_simp
            with_reducible rfl
          rotate_left
          · simp only [Act.put, List.setIfInBounds_toArray, List.set_cons_zero, List.set_cons_succ, i64_w, i32_w]
            rfl
          refine pure_ (i := 5) (N := some 62) (v := ?_) (a' := ?_) #[true, true, true, true, true, true, true, false, false, false, false, false, false, false, false] rfl rfl (by kernel_rfl) (fun _ _ _ h => h) (Or.inl ⟨by rfl, ?_⟩) ?_ ?_
          rotate_left
          · intro w'
            go_simp
            with_reducible rfl
          rotate_left
          · simp only [Act.put, List.setIfInBounds_toArray, List.set_cons_zero, List.set_cons_succ, i64_w, i32_w]
            rfl
          refine take_ (i := 7) (N := some 64) (v := ?_) (a' := ?_) #[true, true, true, true, true, true, true, true, false, false, false, false, false, false, false] rfl rfl (by kernel_rfl) (fun _ _ _ h => h) (Or.inl ⟨by rfl, ?_⟩) ⟨gd, rfl⟩ ?_ ?_
          rotate_left
          · rintro w' ⟨g', rfl⟩
            go_simp
            with_reducible rfl
          rotate_left
          · simp only [Act.put, List.setIfInBounds_toArray, List.set_cons_zero, List.set_cons_succ, i64_w, i32_w]
            rfl
          refine one_ (i := 8) (N := some 65) #[true, true, true, true, true, true, true, true, true, false, false, false, false, false, false] rfl rfl (by kernel_rfl) (by simp) (fun Kr hKr => ?_)
          refine goes_ Tryz.func114 (by kernel_rfl) rfl #[.slice A12 x.f6.length c12] (by rfl) rfl rfl (by (try simp only [List.map_toArray, List.map_cons, List.map_nil]); first | done | rfl) ?_
          refine (size_v IH1.out.1 HM2.out.2.1 A12 c12 gd.W (Kd.C_below K.out.2.2.2.2.2.1 (G.deep (g := g) gd)) K.out.2.2.2.2.1).mono ?_
          rintro _ w9 ⟨rfl, hb⟩
          refine ⟨_, rfl, ?_⟩
          obtain ⟨gd, rfl⟩ : ∃ g' : G _, w9 = g'.W := ⟨mkG (gd.below.trans (hb.mono gd.below.size)), rfl⟩
          clear hb
          refine hKr.out _ _ ⟨gd, rfl⟩ (fun _ => ?_)
          clear hKr Kr
          refine norm_ (a' := ?_) ?_ ?_
          rotate_left
          · show Act.put _ (some 65) _ = _
            simp only [Act.put, List.setIfInBounds_toArray, List.set_cons_zero, List.set_cons_succ, i64_w, i32_w]
            rfl
          refine one_ (i := 9) (N := some 66) #[true, true, true, true, true, true, true, true, true, true, false, false, false, false, false] rfl rfl (by kernel_rfl) (by simp) (fun Kr hKr => ?_)
          refine event_step (v := .slice (some ⟨gd.W.heap.size, 0, none⟩) 2 2) (w1 := gd.W.alloc (.cells #[.int .i64 1, .int .i64 ((s1 : Nat) : Int)] 3)) (by rfl) (by first | (go_simp; done) | (go_simp; rfl)) ?_
          refine hKr.out _ _ ⟨mkG (G.ball gd _), rfl⟩ (fun _ => ?_)
          clear hKr Kr
          refine norm_ (a' := ?_) ?_ ?_
          rotate_left
          · show Act.put _ (some 66) _ = _
            simp only [Act.put, List.setIfInBounds_toArray, List.set_cons_zero, List.set_cons_succ, i64_w, i32_w]
            rfl
          refine one_ (i := 10) (N := some 67) #[true, true, true, true, true, true, true, true, true, true, true, false, false, false, false] rfl rfl (by kernel_rfl) (by simp) (fun Kr hKr => ?_)
          refine goes_ Tryz.func155 (by kernel_rfl) rfl #[.slice (some ⟨gd.W.heap.size, 0, none⟩) 2 2] (by rfl) rfl rfl (by (try simp only [List.map_toArray, List.map_cons, List.map_nil]); first | done | rfl) ?_
          refine (plusN_calls [1, s1] q HM2.out.2.2.1 (le_of2 (by omega) SB.out.1) (by simp) (some ⟨gd.W.heap.size, 0, none⟩) 2 _ (lit_nats _ [1, s1] 3 (by simp)) (by simp)).mono ?_
          rintro _ w9 ⟨rfl, hb⟩
          refine ⟨_, rfl, ?_⟩
          obtain ⟨gd, rfl⟩ : ∃ g' : G _, w9 = g'.W := ⟨mkG ((G.ball gd _).trans (hb.mono (G.ball gd _).size)), rfl⟩
          clear hb
          refine hKr.out _ _ ⟨gd, rfl⟩ (fun _ => ?_)
          clear hKr Kr
          refine norm_ (a' := ?_) ?_ ?_
          rotate_left
          · show Act.put _ (some 67) _ = _
            simp only [Act.put, List.setIfInBounds_toArray, List.set_cons_zero, List.set_cons_succ, i64_w, i32_w]
            rfl
          refine one_ (i := 11) (N := some 68) #[true, true, true, true, true, true, true, true, true, true, true, true, false, false, false] rfl rfl (by kernel_rfl) (by simp) (fun Kr hKr => ?_)
          refine goes_ Tryz.func157 (by kernel_rfl) rfl #[.int .u64 (IntKind.u64.wrap (x.f5 - x.f4)), .int .i64 ((q : Nat) : Int)] (by rfl) rfl rfl (by (try simp only [List.map_toArray, List.map_cons, List.map_nil]); first | done | rfl) ?_
          refine (timesZ_calls (IntKind.u64.wrap (x.f5 - x.f4)) nn q tt HM2.out.2.2.2.2.1 HM2.out.2.2.2.2.2 SB.out.2 HM2.out.2.2.2.1 gd.W).mono ?_
          rintro _ w9 ⟨rfl, hb⟩
          refine ⟨_, rfl, ?_⟩
          obtain ⟨gd, rfl⟩ : ∃ g' : G _, w9 = g'.W := ⟨mkG (gd.below.trans (hb.mono gd.below.size)), rfl⟩
          clear hb
          refine hKr.out _ _ ⟨gd, rfl⟩ (fun _ => ?_)
          clear hKr Kr
          refine norm_ (a' := ?_) ?_ ?_
          rotate_left
          · show Act.put _ (some 68) _ = _
            simp only [Act.put, List.setIfInBounds_toArray, List.set_cons_zero, List.set_cons_succ, i64_w, i32_w]
            rfl
          refine one_ (i := 12) (N := some 69) #[true, true, true, true, true, true, true, true, true, true, true, true, true, false, false] rfl rfl (by kernel_rfl) (by simp) (fun Kr hKr => ?_)
          refine event_step (v := .slice (some ⟨gd.W.heap.size, 0, none⟩) 2 2) (w1 := gd.W.alloc (.cells #[.int .i64 (m1 : Int), .int .i64 ((tt : Nat) : Int)] 3)) (by rfl) (by first | (go_simp; done) | (go_simp; rfl)) ?_
          refine hKr.out _ _ ⟨mkG (G.ball gd _), rfl⟩ (fun _ => ?_)
          clear hKr Kr
          refine norm_ (a' := ?_) ?_ ?_
          rotate_left
          · show Act.put _ (some 69) _ = _
            simp only [Act.put, List.setIfInBounds_toArray, List.set_cons_zero, List.set_cons_succ, i64_w, i32_w]
            rfl
          refine one_ (i := 13) (N := some 70) #[true, true, true, true, true, true, true, true, true, true, true, true, true, true, false] rfl rfl (by kernel_rfl) (by simp) (fun Kr hKr => ?_)
          refine goes_ Tryz.func155 (by kernel_rfl) rfl #[.slice (some ⟨gd.W.heap.size, 0, none⟩) 2 2] (by rfl) rfl rfl (by (try simp only [List.map_toArray, List.map_cons, List.map_nil]); first | done | rfl) ?_
          refine (plusN_calls [m1, tt] m2 HM2.out.1 (le_of2 hmb.out.2 (by rw [HM2.out.2.2.2.1]; exact Nat.min_le_right _ _)) (by simp) (some ⟨gd.W.heap.size, 0, none⟩) 2 _ (lit_nats _ [m1, tt] 3 (by simp)) (by simp)).mono ?_
          rintro _ w9 ⟨rfl, hb⟩
          refine ⟨_, rfl, ?_⟩
          obtain ⟨gd, rfl⟩ : ∃ g' : G _, w9 = g'.W := ⟨mkG ((G.ball gd _).trans (hb.mono (G.ball gd _).size)), rfl⟩
          clear hb
          refine hKr.out _ _ ⟨gd, rfl⟩ (fun _ => ?_)
          clear hKr Kr
          refine norm_ (a' := ?_) ?_ ?_
          rotate_left
          · show Act.put _ (some 70) _ = _
            simp only [Act.put, List.setIfInBounds_toArray, List.set_cons_zero, List.set_cons_succ, i64_w, i32_w]
            rfl
          refine pure_ (i := 14) (N := some 3) (v := ?_) (a' := ?_) #[true, true, true, true, true, true, true, true, true, true, true, true, true, true, true] rfl rfl (by kernel_rfl) (fun _ _ _ h => h) (Or.inl ⟨by rfl, ?_⟩) ?_ ?_
          rotate_left
          · intro w'
            go_simp
            with_reducible rfl
          rotate_left
          · simp only [Act.put, List.setIfInBounds_toArray, List.set_cons_zero, List.set_cons_succ, i64_w, i32_w]
            rfl
          refine done_ (by kernel_rfl) ?_
          go_wp2_with fail
          refine ⟨⟨k + 1, mkG (G.deep (g := g) gd), by go_num, ⟨m2, rfl, ?_⟩, rfl, by omega⟩, by simp [intOf]; omega⟩
          obtain ⟨e1, e2, e3, _⟩ := M.out
          have e4 : m2 = min (m1 + tt) 1099511627776 := by simpa using HM2.out.1
          have e5 : q = min (1 + s1) 1099511627776 := by simpa using HM2.out.2.2.1
          rw [e3, H0.out, if_neg (by decide), if_neg (by decide), if_neg (by decide), if_pos rfl, e4, e2, e1, HM2.out.2.2.2.1, e5, HM2.out.2.1, HNN.out]
          exact cap_for _ _ _ _ (by decide)
        · have hlo' : ¬ x.f5 > x.f4 := by omega
          have HLO := Aside0.mk hlo
          clear hlo
          go_wp2_with fail
          refine ⟨⟨k + 1, mkG (G.deep (g := g) gg), by go_num, ⟨m1, rfl, ?_⟩, rfl, by omega⟩, by simp [intOf]; omega⟩
          obtain ⟨e1, e2, e3, _⟩ := M.out
          rw [e3, H0.out, if_neg (by decide), if_neg (by decide), if_neg (by decide), if_pos rfl, e2, e1, show (x.f5 - x.f4).toNat = 0 by have := HLO.out; omega, Nat.zero_mul]
          exact cap_one _ _
      · have b1 : (x.f0 == 1) = false := by simpa using h1
        have b2 : (x.f0 == 2) = false := by simpa using h2
        have b3 : (x.f0 == 3) = false := by simpa using h3
        have b4 : (x.f0 == 4) = false := by simpa using h4
        have HN := Aside0.mk (And.intro h1 (And.intro h2 (And.intro h3 h4)))
        clear h1 h2 h3 h4
        go_upto_region 5 with (fail)
        refine wp_grown0 ?_
        intro gg
        go_wp2_with fail
        refine (call_of_alloc (g := gg) (plusN_calls [m, 1] m1 M.out.2.2.2 (le_of2 hmb.out.1 (by omega)) (by simp) (some ⟨gg.W.heap.size, 0, none⟩) 2 _ (lit_nats _ [m, 1] 3 (by simp)) (by simp))).mono ?_
        rintro _ _ ⟨rfl, gg, rfl⟩
        go_wp2_with fail
        refine ⟨⟨k + 1, mkG (G.deep (g := g) gg), by go_num, ⟨m1, rfl, ?_⟩, rfl, by omega⟩, by simp [intOf]; omega⟩
        obtain ⟨e1, e2, e3, _⟩ := M.out
        rw [e3, if_neg HN.out.1, if_neg HN.out.2.1, if_neg HN.out.2.2.1, if_neg HN.out.2.2.2, e2, e1]
        exact cap_one _ _
    · go_wp2_with fail
      go_ret
      refine ⟨?_, g.below⟩
      rw [hm, show k = l.length by omega, List.take_length]
      rfl
end Go.Proofs.YtfigjpehecibeaaGreat.L
end
section
namespace Go.Proofs.YtfigjpehecibeaaGreat.L
open Go.RowKit Go.Proofs.YtfigjpehecibeaaGreatW.PrintWords Go.Proofs.YtfigjpehecibeaaGreatW.PrintLast Go.Proofs.YtfigjpehecibeaaGreatW.PrintMore Go.Proofs.YtfigjpehecibeaaGreat.Gr
set_option linter.unusedVariables false
set_option linter.unusedSimpArgs false
attribute [local go_sem] G.cell
theorem wsize_calls : ∀ (n : Nat) (l : List S119), SizeOf.sizeOf l ≤ n → Ot.goodTs l → Ot.bulkTs l ≤ 1048576 → SizeC 114 1099511627776 l := by
  intro n
  induction n with
  | zero => intro l h; cases l <;> simp at h <;> omega
  | succ n ih =>
    intro l h hg hb
    refine size_walk l (fun x hx => ?_) fun x hx => ?_
    · have h1 := (Ot.goodTs_iff l).1 hg x hx
      have h2 := bulkTs_mem hx
      have h3 := bulkT_eq x
      have h4 := weight_bulk x.f2
      have h5 := weight_bulk x.f3
      obtain ⟨a, b, c, d, e, f, g, k⟩ := x
      rw [Ot.goodT] at h1
      have h6 := okU_b h1.2.2.2.2.1
      have h7 := okU_b h1.2.2.2.2.2.1
      exact ⟨h6.1, h7.1, h6.2, h7.2, by omega, by omega⟩
    · have h1 := List.sizeOf_lt_of_mem hx
      have h2 := (Ot.goodTs_iff l).1 hg x hx
      have h3 := bulkTs_mem hx
      have h4 := bulkT_eq x
      obtain ⟨a, b, c, d, e, f, g, k⟩ := x
      rw [Ot.goodT] at h2
      simp only [S119.mk.sizeOf_spec] at h1
      exact ⟨ih _ (by show SizeOf.sizeOf g ≤ n; omega) h2.2.2.2.2.2.2.2.2.1 (by show Ot.bulkTs g ≤ 1048576; simp only at h4; omega), ih _ (by show SizeOf.sizeOf k ≤ n; omega) h2.2.2.2.2.2.2.2.2.2 (by show Ot.bulkTs k ≤ 1048576; simp only at h4; omega)⟩
set_option maxHeartbeats 1000000 in
set_option maxRecDepth 100000 in
theorem c71_calls (nm : ByteArray) (wd ln : Int) (ds : List S70) (bd : List S119) (A3 : Option Addr) (c3 : Nat) (A4 : Option Addr) (c4 : Nat) (W : World) (hk : k119.C W A4 bd.length bd) (hl4 : bd.length ≤ c4) (hg : Ot.goodTs bd) (hbk : Ot.bulkTs bd ≤ 1048576) (b : Bool) (hb : b = decide (sizeB bd ≤ 65536)) :
    Calls Tryz.prog 201 #[.agg #[.string nm, .int .i64 wd, .int .i64 ln, .slice A3 ds.length c3, .slice A4 bd.length c4]] W fun e w' => e = .returned (.bool b) ∧ Below W.heap.size W w' := by
  have gout : ∀ {o : Obj} (g : G (W.alloc o)), Below W.heap.size W g.W := fun g => ((Below.refl _ _).alloc (Nat.le_refl _) _).trans (g.below.mono (by simp))
  have HR := Aside0.mk hb
  clear hb
  have HK := Aside0.mk (And.intro hk (And.intro hg hbk))
  clear hk hg hbk
  obtain ⟨m, hm⟩ : ∃ m, m = min (sizeB bd) 1099511627776 := ⟨_, rfl⟩
  have HM := Aside0.mk hm
  clear hm
  go_enter Tryz.func201, Tryz.ntmps201
  go_upto_region 1 with (fail)
  refine wp_grown0 ?_
  intro gg
  go_wp2_with fail
  refine (call_of (g := gg) (size_v (wsize_calls _ bd (Nat.le_refl _) HK.out.2.1 HK.out.2.2) HM.out A4 c4 gg.W (Kd.C_below HK.out.1 (gout gg)) hl4)).mono ?_
  rintro _ _ ⟨rfl, gg, rfl⟩
  by_cases h : sizeB bd ≤ 65536
  · have h' : (m : Int) ≤ 65536 := by have := HM.out; omega
    have H := Aside0.mk h
    clear h
    go_wp2_with fail
    go_ret
    exact ⟨ret_bool2 (by rw [HR.out, decide_eq_true H.out]), gout _⟩
  · have h' : ¬ (m : Int) ≤ 65536 := by have := HM.out; omega
    have H := Aside0.mk h
    clear h
    go_wp2_with fail
    go_ret
    exact ⟨ret_bool2 (by rw [HR.out, decide_eq_false (show ¬ sizeB bd ≤ 65536 by have := H.out; omega)]; first | rfl | exact decide_eq_false (by have := HM.out; have := H.out; omega)), gout _⟩
set_option maxHeartbeats 1000000 in
set_option maxRecDepth 100000 in
theorem c52_calls (nm : ByteArray) (wd ln : Int) (ds : List S70) (bd : List S119) (A3 : Option Addr) (c3 : Nat) (A4 : Option Addr) (c4 : Nat) (W : World) (hd : k70.C W A3 ds.length ds) (i : Nat) (hi : i < ds.length) (b : Bool) (hb : b = sizeBad ds i) :
    Calls Tryz.prog 182 #[.agg #[.string nm, .int .i64 wd, .int .i64 ln, .slice A3 ds.length c3, .slice A4 bd.length c4], .int .i64 (i : Int)] W fun e w' => e = .returned (.bool b) ∧ Below W.heap.size W w' := by
  have gout : ∀ {o : Obj} (g : G (W.alloc o)), Below W.heap.size W g.W := fun g => ((Below.refl _ _).alloc (Nat.le_refl _) _).trans (g.below.mono (by simp))
  have HR := Aside0.mk hb
  clear hb
  have hlm := hd.2.1
  obtain ⟨adr, A9d, c9d, e1, q0, q1, q2, q3, l9, g9⟩ := at_T70 hd (i : Int) (Int.natCast_nonneg _) (by omega)
  cases e1
  rw [Int.toNat_natCast] at q0 q1 q2 q3
  have hi1 : (i : Int) < (ds.length : Int) := by omega
  clear hd
  go_enter Tryz.func182, Tryz.ntmps182
  go_upto_region 1 with (fail)
  refine wp_grown0 ?_
  intro gg
  have r0 : ∀ g : G (gw0 gg), g.W.cell? (adr.add (i * 4)) = some (.int .i64 (rd_T70 ds (i : Int)).f0) := fun g => held_in (gout g) q0
  have r2 : ∀ g : G (gw0 gg), g.W.cell? ⟨(adr.add (i * 4)).block, (adr.add (i * 4)).off + 2, none⟩ = some (.int .i64 (rd_T70 ds (i : Int)).f2) := fun g => held_in (gout g) q2
  have r3 : ∀ g : G (gw0 gg), g.W.cell? ⟨(adr.add (i * 4)).block, (adr.add (i * 4)).off + 3, none⟩ = some (.slice A9d (rd_T70 ds (i : Int)).f3.length c9d) := fun g => held_in (gout g) q3
  clear q0 q1 q2 q3
  by_cases z : (rd_T70 ds (i : Int)).f2 = 0
  · have Z := Aside0.mk z
    go_wp2_with fail
    go_ret
    exact ⟨ret_bool2 (by rw [HR.out]; simp [sizeBad, Z.out]), gout _⟩
  · have bz := bn z
    have Z := Aside0.mk z
    clear z
    go_wp2_with fail
    refine (call_of (g := gg) (wpower_calls (rd_T70 ds (i : Int)).f2 256 gg.W (by decide) (pow2B (rd_T70 ds (i : Int)).f2) (by
      by_cases h : (rd_T70 ds (i : Int)).f2 ≤ 256
      · rw [decide_eq_true h, Bool.true_and]
      · rw [decide_eq_false h, Bool.false_and, pow_out (.inr (by omega))]))).mono ?_
    rintro _ _ ⟨rfl, gg, rfl⟩
    go_wp2_with fail
    go_ret
    exact ⟨ret_bool2 (by rw [HR.out]; simp [sizeBad, Z.out]), gout _⟩
set_option maxHeartbeats 1000000 in
set_option maxRecDepth 100000 in
theorem c53_calls (nm : ByteArray) (wd ln : Int) (ds : List S70) (bd : List S119) (A3 : Option Addr) (c3 : Nat) (A4 : Option Addr) (c4 : Nat) (W : World) (hd : k70.C W A3 ds.length ds) (i : Nat) (hi : i < ds.length) (b : Bool) (hb : b = valuesBad ds i) :
    Calls Tryz.prog 183 #[.agg #[.string nm, .int .i64 wd, .int .i64 ln, .slice A3 ds.length c3, .slice A4 bd.length c4], .int .i64 (i : Int)] W fun e w' => e = .returned (.bool b) ∧ Below W.heap.size W w' := by
  have gout : ∀ {o : Obj} (g : G (W.alloc o)), Below W.heap.size W g.W := fun g => ((Below.refl _ _).alloc (Nat.le_refl _) _).trans (g.below.mono (by simp))
  have HR := Aside0.mk hb
  clear hb
  have hlm := hd.2.1
  obtain ⟨adr, A9d, c9d, e1, q0, q1, q2, q3, l9, g9⟩ := at_T70 hd (i : Int) (Int.natCast_nonneg _) (by omega)
  cases e1
  rw [Int.toNat_natCast] at q0 q1 q2 q3
  have hi1 : (i : Int) < (ds.length : Int) := by omega
  clear hd
  go_enter Tryz.func183, Tryz.ntmps183
  go_upto_region 1 with (fail)
  refine wp_grown0 ?_
  intro gg
  have r0 : ∀ g : G (gw0 gg), g.W.cell? (adr.add (i * 4)) = some (.int .i64 (rd_T70 ds (i : Int)).f0) := fun g => held_in (gout g) q0
  have r2 : ∀ g : G (gw0 gg), g.W.cell? ⟨(adr.add (i * 4)).block, (adr.add (i * 4)).off + 2, none⟩ = some (.int .i64 (rd_T70 ds (i : Int)).f2) := fun g => held_in (gout g) q2
  have r3 : ∀ g : G (gw0 gg), g.W.cell? ⟨(adr.add (i * 4)).block, (adr.add (i * 4)).off + 3, none⟩ = some (.slice A9d (rd_T70 ds (i : Int)).f3.length c9d) := fun g => held_in (gout g) q3
  clear q0 q1 q2 q3
  by_cases z : (rd_T70 ds (i : Int)).f0 = 3
  · have Z := Aside0.mk z
    have bz : ((rd_T70 ds (i : Int)).f0 == 3) = true := by simp [z]
    clear z
    by_cases y : ((rd_T70 ds (i : Int)).f3.length : Int) = (rd_T70 ds (i : Int)).f2
    · have Y := Aside0.mk y
      have by' : (((rd_T70 ds (i : Int)).f3.length : Int) != (rd_T70 ds (i : Int)).f2) = false := by simpa using y
      clear y
      refine wp_region_of (g := gg) (by kernel_rfl) (by kernel_rfl) ?_
      repeat (go_big_quiet_step (fail))
      refine wpQuiet_nil ?_
      rintro _ ⟨gg, rfl⟩
      go_wp2_with fail
      go_ret
      exact ⟨ret_bool2 (by rw [HR.out]; simp [valuesBad, Y.out]), gout _⟩
    · have Y := Aside0.mk y
      have by' := bn y
      clear y
      refine wp_region_of (g := gg) (by kernel_rfl) (by kernel_rfl) ?_
      repeat (go_big_quiet_step (fail))
      refine wpQuiet_nil ?_
      rintro _ ⟨gg, rfl⟩
      go_wp2_with fail
      go_ret
      exact ⟨ret_bool2 (by rw [HR.out]; simp [valuesBad, Z.out, Y.out]), gout _⟩
  · have Z := Aside0.mk z
    have bz := bf z
    clear z
    refine wp_region_of (g := gg) (by kernel_rfl) (by kernel_rfl) ?_
    repeat (go_big_quiet_step (fail))
    refine wpQuiet_nil ?_
    rintro _ ⟨gg, rfl⟩
    go_wp2_with fail
    go_ret
    exact ⟨ret_bool2 (by rw [HR.out]; simp [valuesBad, Z.out]), gout _⟩
end Go.Proofs.YtfigjpehecibeaaGreat.L
end
section
namespace Go.Proofs.YtfigjpehecibeaaGreat.L
open Go.RowKit Go.Proofs.YtfigjpehecibeaaGreatW.PrintWords Go.Proofs.YtfigjpehecibeaaGreatW.PrintLast Go.Proofs.YtfigjpehecibeaaGreatW.PrintMore Go.Proofs.YtfigjpehecibeaaGreat.Gr
set_option linter.unusedVariables false
set_option linter.unusedSimpArgs false
attribute [local go_sem] G.cell
attribute [local go_sem] max2_int min2_int max_two min_two max_three min_three max_four min_four
set_option maxHeartbeats 1500000 in
set_option maxRecDepth 100000 in
theorem inputs_calls (nm : ByteArray) (wd ln : Int) (ds : List S70) (bd : List S119) (A3 : Option Addr) (c3 : Nat) (A4 : Option Addr) (c4 : Nat) (W : World) (hd : k70.C W A3 ds.length ds) (hdl : ds.length ≤ 1048576) (hw : ∀ d ∈ ds, d.f2 = 0 ∨ pow2B d.f2 = true) :
    Calls Tryz.prog 189 #[.agg #[.string nm, .int .i64 wd, .int .i64 ln, .slice A3 ds.length c3, .slice A4 bd.length c4]] W fun e w' => e = .returned (.int .i64 (wordsS ds)) ∧ Below W.heap.size W w' := by
  have gout : ∀ {o : Obj} (g : G (W.alloc o)), Below W.heap.size W g.W := fun g => ((Below.refl _ _).alloc (Nat.le_refl _) _).trans (g.below.mono (by simp))
  have HD := Aside0.mk hd
  have HW := Aside0.mk hw
  have HL := Aside0.mk hdl
  have hlm := hd.2.1
  clear hd hw hdl
  go_enter Tryz.func189, Tryz.ntmps189
  go_upto_region 2 with (fail)
  refine wp_grown0 ?_
  intro gg
  have goutW : ∀ (g : G (gw0 gg)), Below W.heap.size W g.W := fun g => gout g
  go_wp2_with fail
  go_loopw [9, 3] (fun i n X => ∃ (k : Nat) (m : Int) (g : G (gw0 gg)), i = .int .i64 k ∧ n = .int .i64 m ∧ X = g.W ∧ k ≤ ds.length ∧ Aside0 (m = wordsS (ds.take k) ∧ 0 ≤ m ∧ m ≤ 256 * (k : Int))) (fun i _ _ => ds.length - (intOf i).toNat)
  case atStart => exact ⟨0, 0, gg, rfl, rfl, rfl, Nat.zero_le _, ⟨by simp [wordsS], by omega, by omega⟩⟩
  case round =>
    obtain ⟨k, m, gx, rfl, rfl, rfl, hk, HK⟩ := hrel
    by_cases hlt : k < ds.length
    · obtain ⟨adr, A9d, c9d, e1, q0, q1, q2, q3, l9, g9⟩ := at_T70 HD.out (k : Int) (Int.natCast_nonneg _) (by omega)
      cases e1
      rw [Int.toNat_natCast] at q0 q1 q2 q3
      replace q0 := held_in (goutW gx) q0
      replace q1 := held_in (goutW gx) q1
      replace q2 := held_in (goutW gx) q2
      replace q3 := held_in (goutW gx) q3
      clear l9 g9
      have hi1 : (k : Int) < (ds.length : Int) := by omega
      have T := Aside0.mk (congrArg wordsS (take_rd70 hlt))
      have WL := Aside0.mk (And.intro (words_le (HW.out _ (rd44_mem hlt))) (HW.out _ (rd44_mem hlt)))
      go_upto_region 5 with (fail)
      refine wp_grown0 ?_
      intro g2
      have goutX : ∀ (g : G (gw0 g2)), Below (gw0 gg).heap.size (gw0 gg) g.W := fun g => (gx.below.alloc gx.below.size _).trans (g.below.mono (Nat.le_trans gx.below.size (by simp [gw0])))
      have KS := Aside0.mk (show ∀ z, z = wordsS (ds.take k) + (if isIn (rd_T70 ds (k : Int)) = true then wordsD (rd_T70 ds (k : Int)) else 0) → z = wordsS (ds.take (k + 1)) from fun z hz => by have h := T.out; rw [wordsS_add] at h; rw [h, hz])
      have HV := Aside0.mk (show wrap64 (m + if (rd_T70 ds (k : Int)).f2 < 1 then 1 else (rd_T70 ds (k : Int)).f2) = m + wordsD (rd_T70 ds (k : Int)) by
        have h1 := WL.out.1
        have h2 := WL.out.2
        have h3 := HK.out
        have h4 := HL.out
        have e : (if (rd_T70 ds (k : Int)).f2 < 1 then 1 else (rd_T70 ds (k : Int)).f2) = wordsD (rd_T70 ds (k : Int)) := by
          unfold wordsD
          rcases h2 with h2 | h2
          · rw [h2]; rfl
          · have h5 := pow2_le h2
            rw [if_neg (by omega), if_neg (by omega)]
        rw [e]
        exact wrap_id (by omega) (by omega))
      by_cases f1 : (rd_T70 ds (k : Int)).f0 = 1
      · have b1 : ((rd_T70 ds (k : Int)).f0 == 1) = true := by simp [f1]
        have FF := Aside0.mk f1
        clear f1
        go_wp2_with fail
        refine ⟨⟨k + 1, m + wordsD (rd_T70 ds (k : Int)), mkG (goutX g2), by go_num, by rw [HV.out], rfl, by omega, ⟨KS.out _ (by rw [HK.out.1, if_pos (by simp [isIn, FF.out])]), by have h1 := HK.out; have h2 := WL.out.1; omega, by have h1 := HK.out; have h2 := WL.out.1; omega⟩⟩, by simp [intOf]; omega⟩
      · have b1 := bf f1
        by_cases f2 : (rd_T70 ds (k : Int)).f0 = 2
        · have b2 : ((rd_T70 ds (k : Int)).f0 == 2) = true := by simp [f2]
          have FF := Aside0.mk f2
          clear f1 f2
          go_wp2_with fail
          refine ⟨⟨k + 1, m + wordsD (rd_T70 ds (k : Int)), mkG (goutX g2), by go_num, by rw [HV.out], rfl, by omega, ⟨KS.out _ (by rw [HK.out.1, if_pos (by simp [isIn, FF.out])]), by have h1 := HK.out; have h2 := WL.out.1; omega, by have h1 := HK.out; have h2 := WL.out.1; omega⟩⟩, by simp [intOf]; omega⟩
        · have b2 := bf f2
          have FF := Aside0.mk (And.intro f1 f2)
          clear f1 f2
          go_wp2_with fail
          refine ⟨⟨k + 1, m, mkG (goutX g2), by go_num, rfl, rfl, by omega, ⟨KS.out _ (by rw [HK.out.1, if_neg (by simp [isIn, FF.out.1, FF.out.2])]; simp), by have h1 := HK.out; omega, by have h1 := HK.out; omega⟩⟩, by simp [intOf]; omega⟩
    · have hi1 : ¬ (k : Int) < (ds.length : Int) := by omega
      have M9 := Aside0.mk (show m = wordsS ds by have h := HK.out.1; rw [show k = ds.length by omega, List.take_length] at h; exact h)
      go_wp2_with fail
      go_ret
      exact ⟨by rw [← M9.out]; rfl, goutW _⟩
set_option maxHeartbeats 1000000 in
set_option maxRecDepth 100000 in
theorem c58_calls (nm : ByteArray) (wd ln : Int) (ds : List S70) (bd : List S119) (A3 : Option Addr) (c3 : Nat) (A4 : Option Addr) (c4 : Nat) (W : World) (hd : k70.C W A3 ds.length ds) (hdl : ds.length ≤ 1048576) (hw : ∀ d ∈ ds, d.f2 = 0 ∨ pow2B d.f2 = true) (b : Bool) (hb : b = decide (wordsS ds ≤ 4096)) :
    Calls Tryz.prog 188 #[.agg #[.string nm, .int .i64 wd, .int .i64 ln, .slice A3 ds.length c3, .slice A4 bd.length c4]] W fun e w' => e = .returned (.bool b) ∧ Below W.heap.size W w' := by
  have gout : ∀ {o : Obj} (g : G (W.alloc o)), Below W.heap.size W g.W := fun g => ((Below.refl _ _).alloc (Nat.le_refl _) _).trans (g.below.mono (by simp))
  have HR := Aside0.mk hb
  have HD := Aside0.mk (And.intro hd (And.intro hdl hw))
  clear hb hd hdl hw
  go_enter Tryz.func188, Tryz.ntmps188
  go_upto_region 1 with (fail)
  refine wp_grown0 ?_
  intro gg
  go_wp2_with fail
  refine (call_of (g := gg) (inputs_calls nm wd ln ds bd A3 c3 A4 c4 gg.W (Kd.C_below HD.out.1 (gout gg)) HD.out.2.1 HD.out.2.2)).mono ?_
  rintro _ _ ⟨rfl, gg, rfl⟩
  go_wp2_with fail
  go_ret
  exact ⟨ret_bool2 (by rw [HR.out]), gout _⟩
end Go.Proofs.YtfigjpehecibeaaGreat.L
end
