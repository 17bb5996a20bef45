/- A statement's tree is of the form: the walk; printed by wip's st.py. -/
import Derived.Test.YtnacekhfebjdfaaLd0
namespace Go.Proofs.Ytnacekhfebjdfaa.L
open Go.RowKit Go.Proofs.YtnacekhfebjdfaaW.PrintWords Go.Proofs.YtnacekhfebjdfaaW.PrintLast Go.Proofs.YtnacekhfebjdfaaW.PrintMore Go.Proofs.Ytnacekhfebjdfaa.Gr
set_option linter.unusedVariables false
set_option linter.unusedSimpArgs false
attribute [local go_sem] G.cell
set_option maxHeartbeats 1500000 in
set_option maxRecDepth 100000 in
theorem stmtForm_k2 (b : ByteArray) (cc d : S37) (e f : Int) (g hh : List S39) {A5 : Option Addr} {c5 : Nat} {A9 : Option Addr} {c9 : Nat} {A12 : Option Addr} {c12 : Nat} {A13 : Option Addr} {c13 : Nat} (w : World)
    (L : Aside0 (cc.f3.length ≤ c5 ∧ d.f3.length ≤ c9 ∧ g.length ≤ c12 ∧ hh.length ≤ c13)) (H : Aside0 (k37.C w A5 cc.f3.length cc.f3 ∧ k37.C w A9 d.f3.length d.f3 ∧ k39.C w A12 g.length g ∧ k39.C w A13 hh.length hh))
    (IH : Aside0 (∀ l, l = g ∨ l = hh → BodyC 11 l)) :
    Calls Try.prog 16 #[.agg #[.int .i64 2, .string b, .int .i64 cc.f0, .int .u64 cc.f1, .string cc.f2, .slice A5 cc.f3.length c5, .int .i64 d.f0, .int .u64 d.f1, .string d.f2, .slice A9 d.f3.length c9, .int .u64 e, .int .u64 f, .slice A12 g.length c12, .slice A13 hh.length c13]] w fun e' w' => e' = .returned (.bool (stOwn ⟨2, b, cc, d, e, f, g, hh⟩ && bdB g && bdB hh)) ∧ Below w.heap.size w w' := by
  have gout : ∀ {o : Obj} (g : G (w.alloc o)), Below w.heap.size w g.W := fun g => ((Below.refl _ _).alloc (Nat.le_refl _) _).trans (g.below.mono (by simp))
  go_enter Try.func16, Try.ntmps16
  go_upto_region 1 with (fail)
  refine wp_region_grown (by kernel_rfl) (by kernel_rfl) ?_
  repeat go_big_quiet_step (fail)
  refine wpQuiet_nil ?_
  rintro _ ⟨gg, rfl⟩
  go_wp2_with fail
  rcases bcases (namedB b) with hh8 | hh8
  · refine (call_of (g := gg) (named_v hh8 gg.W)).mono ?_
    rintro _ _ ⟨rfl, gg, rfl⟩
    go_wp2_with fail
    rcases bcases (exB cc) with hh7 | hh7
    · refine (call_of (g := gg) (exprForm_v hh7 _ _ gg.W (Kd.C_below H.out.1 (gout gg)) L.out.1)).mono ?_
      rintro _ _ ⟨rfl, gg, rfl⟩
      go_wp2_with fail
      rcases bcases (exB d) with hh6 | hh6
      · refine (call_of (g := gg) (exprForm_v hh6 _ _ gg.W (Kd.C_below H.out.2.1 (gout gg)) L.out.2.1)).mono ?_
        rintro _ _ ⟨rfl, gg, rfl⟩
        rcases bcases (e != 0) with hh5 | hh5
        · have he5 : ¬ e = 0 := by simpa using hh5
          go_wp2_with fail
          go_ret
          exact ⟨ret_bool2 (by simp [stOwn, hh8, hh7, hh6, he5]), gout _⟩
        · have he5 : e = 0 := by simpa using hh5
          rcases bcases (f != 0) with hh4 | hh4
          · have he4 : ¬ f = 0 := by simpa using hh4
            go_wp2_with fail
            go_ret
            exact ⟨ret_bool2 (by simp [stOwn, hh8, hh7, hh6, he5, he4]), gout _⟩
          · have he4 : f = 0 := by simpa using hh4
            rcases Nat.eq_zero_or_pos g.length with hh3 | hh3
            · have he3 : g.isEmpty = true := by rw [List.eq_nil_of_length_eq_zero hh3]; rfl
              have hn3 : ¬ 0 < g.length := by omega
              have hm3 : decide (0 < g.length) = false := decide_eq_false hn3
              clear hh3
              rcases Nat.eq_zero_or_pos hh.length with hh2 | hh2
              · have he2 : hh.isEmpty = true := by rw [List.eq_nil_of_length_eq_zero hh2]; rfl
                have hn2 : ¬ 0 < hh.length := by omega
                have hm2 : decide (0 < hh.length) = false := decide_eq_false hn2
                clear hh2
                go_wp2_with fail
                rcases bcases (bdB g) with hh1 | hh1
                · refine (call_of (g := gg) (body_v (IH.out _ (Or.inl rfl)) hh1 _ _ gg.W (Kd.C_below H.out.2.2.1 (gout gg)) L.out.2.2.1)).mono ?_
                  rintro _ _ ⟨rfl, gg, rfl⟩
                  go_wp2_with fail
                  rcases bcases (bdB hh) with hh0 | hh0
                  · refine (call_of (g := gg) (body_v (IH.out _ (Or.inr rfl)) hh0 _ _ gg.W (Kd.C_below H.out.2.2.2 (gout gg)) L.out.2.2.2)).mono ?_
                    rintro _ _ ⟨rfl, gg, rfl⟩
                    go_wp2_with fail
                    go_ret
                    exact ⟨ret_bool2 (by simp [stOwn, hh8, hh7, hh6, he5, he4, he3, he2, hh1, hh0]), gout _⟩
                  · refine (call_of (g := gg) (body_v (IH.out _ (Or.inr rfl)) hh0 _ _ gg.W (Kd.C_below H.out.2.2.2 (gout gg)) L.out.2.2.2)).mono ?_
                    rintro _ _ ⟨rfl, gg, rfl⟩
                    go_wp2_with fail
                    go_ret
                    exact ⟨ret_bool2 (by simp [stOwn, hh8, hh7, hh6, he5, he4, he3, he2, hh1, hh0]), gout _⟩
                · refine (call_of (g := gg) (body_v (IH.out _ (Or.inl rfl)) hh1 _ _ gg.W (Kd.C_below H.out.2.2.1 (gout gg)) L.out.2.2.1)).mono ?_
                  rintro _ _ ⟨rfl, gg, rfl⟩
                  go_wp2_with fail
                  go_ret
                  exact ⟨ret_bool2 (by simp [stOwn, hh8, hh7, hh6, he5, he4, he3, he2, hh1]), gout _⟩
              · have he2 : hh.isEmpty = false := by rw [List.isEmpty_eq_false_iff]; rintro rfl; exact absurd hh2 (by simp)
                go_wp2_with fail
                go_ret
                exact ⟨ret_bool2 (by simp [stOwn, hh8, hh7, hh6, he5, he4, he3, he2]), gout _⟩
            · have he3 : g.isEmpty = false := by rw [List.isEmpty_eq_false_iff]; rintro rfl; exact absurd hh3 (by simp)
              go_wp2_with fail
              go_ret
              exact ⟨ret_bool2 (by simp [stOwn, hh8, hh7, hh6, he5, he4, he3]), gout _⟩
      · refine (call_of (g := gg) (exprForm_v hh6 _ _ gg.W (Kd.C_below H.out.2.1 (gout gg)) L.out.2.1)).mono ?_
        rintro _ _ ⟨rfl, gg, rfl⟩
        go_wp2_with fail
        go_ret
        exact ⟨ret_bool2 (by simp [stOwn, hh8, hh7, hh6]), gout _⟩
    · refine (call_of (g := gg) (exprForm_v hh7 _ _ gg.W (Kd.C_below H.out.1 (gout gg)) L.out.1)).mono ?_
      rintro _ _ ⟨rfl, gg, rfl⟩
      go_wp2_with fail
      go_ret
      exact ⟨ret_bool2 (by simp [stOwn, hh8, hh7]), gout _⟩
  · refine (call_of (g := gg) (named_v hh8 gg.W)).mono ?_
    rintro _ _ ⟨rfl, gg, rfl⟩
    go_wp2_with fail
    go_ret
    exact ⟨ret_bool2 (by simp [stOwn, hh8]), gout _⟩
end Go.Proofs.Ytnacekhfebjdfaa.L
