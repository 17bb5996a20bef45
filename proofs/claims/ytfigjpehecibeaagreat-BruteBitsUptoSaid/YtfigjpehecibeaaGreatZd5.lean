/- Texts joined by a program of mine: LsA3 LsA4 LsA5 LsBlt LsBgt LsB1 LsB2 LsB3 LsB4 LsB5 Lg. -/
import Derived.Test.YtfigjpehecibeaaGreatZd4
section
namespace Go.Proofs.YtfigjpehecibeaaGreat.L
open Go.RowKit Go.Proofs.YtfigjpehecibeaaGreatW.PrintWords Go.Proofs.YtfigjpehecibeaaGreatW.PrintLast Go.Proofs.YtfigjpehecibeaaGreatW.PrintMore Go.Proofs.YtfigjpehecibeaaGreat.Gr
set_option linter.unusedVariables false
set_option linter.unusedSimpArgs false
attribute [local go_sem] G.cell
set_option maxHeartbeats 1500000 in
set_option maxRecDepth 100000 in
theorem stmtForm_k3 (b : ByteArray) (cc d : S116) (e f : Int) (g hh : List S119) {A5 : Option Addr} {c5 : Nat} {A9 : Option Addr} {c9 : Nat} {A12 : Option Addr} {c12 : Nat} {A13 : Option Addr} {c13 : Nat} (w : World)
    (L : Aside0 (cc.f3.length ≤ c5 ∧ d.f3.length ≤ c9 ∧ g.length ≤ c12 ∧ hh.length ≤ c13)) (H : Aside0 (k116.C w A5 cc.f3.length cc.f3 ∧ k116.C w A9 d.f3.length d.f3 ∧ k119.C w A12 g.length g ∧ k119.C w A13 hh.length hh))
    (IH : Aside0 (∀ l, l = g ∨ l = hh → BodyC 121 l)) :
    Calls Tryz.prog 168 #[.agg #[.int .i64 3, .string b, .int .i64 cc.f0, .int .u64 cc.f1, .string cc.f2, .slice A5 cc.f3.length c5, .int .i64 d.f0, .int .u64 d.f1, .string d.f2, .slice A9 d.f3.length c9, .int .u64 e, .int .u64 f, .slice A12 g.length c12, .slice A13 hh.length c13]] w fun e' w' => e' = .returned (.bool (stOwn ⟨3, b, cc, d, e, f, g, hh⟩ && bdB g && bdB hh)) ∧ Below w.heap.size w w' := by
  have gout : ∀ {o : Obj} (g : G (w.alloc o)), Below w.heap.size w g.W := fun g => ((Below.refl _ _).alloc (Nat.le_refl _) _).trans (g.below.mono (by simp))
  go_enter Tryz.func168, Tryz.ntmps168
  go_upto_region 1 with (fail)
  refine wp_region_grown (by kernel_rfl) (by kernel_rfl) ?_
  repeat go_big_quiet_step (fail)
  refine wpQuiet_nil ?_
  rintro _ ⟨gg, rfl⟩
  rcases bcases b.toList.isEmpty with hh6 | hh6
  · have he6 : b.toList = [] := by exact List.isEmpty_iff.1 hh6
    go_wp2_with fail
    rcases bcases (noneB cc) with hh5 | hh5
    · refine (call_of (g := gg) (none_v hh5 _ _ gg.W (Kd.C_below H.out.1 (gout gg)) L.out.1)).mono ?_
      rintro _ _ ⟨rfl, gg, rfl⟩
      go_wp2_with fail
      rcases bcases (exB d) with hh4 | hh4
      · refine (call_of (g := gg) (exprForm_v hh4 _ _ gg.W (Kd.C_below H.out.2.1 (gout gg)) L.out.2.1)).mono ?_
        rintro _ _ ⟨rfl, gg, rfl⟩
        rcases bcases (e != 0) with hh3 | hh3
        · have he3 : ¬ e = 0 := by simpa using hh3
          go_wp2_with fail
          go_ret
          exact ⟨ret_bool2 (by simp [stOwn, hh6, hh5, hh4, he3]), gout _⟩
        · have he3 : e = 0 := by simpa using hh3
          rcases bcases (f != 0) with hh2 | hh2
          · have he2 : ¬ f = 0 := by simpa using hh2
            go_wp2_with fail
            go_ret
            exact ⟨ret_bool2 (by simp [stOwn, hh6, hh5, hh4, he3, he2]), gout _⟩
          · have he2 : f = 0 := by simpa using hh2
            go_wp2_with fail
            rcases bcases (bdB g) with hh1 | hh1
            · refine (call_of (g := gg) (body_v (IH.out _ (Or.inl rfl)) hh1 _ _ gg.W (Kd.C_below H.out.2.2.1 (gout gg)) L.out.2.2.1)).mono ?_
              rintro _ _ ⟨rfl, gg, rfl⟩
              go_wp2_with fail
              rcases bcases (bdB hh) with hh0 | hh0
              · refine (call_of (g := gg) (body_v (IH.out _ (Or.inr rfl)) hh0 _ _ gg.W (Kd.C_below H.out.2.2.2 (gout gg)) L.out.2.2.2)).mono ?_
                rintro _ _ ⟨rfl, gg, rfl⟩
                go_wp2_with fail
                go_ret
                exact ⟨ret_bool2 (by simp [stOwn, hh6, hh5, hh4, he3, he2, hh1, hh0]), gout _⟩
              · refine (call_of (g := gg) (body_v (IH.out _ (Or.inr rfl)) hh0 _ _ gg.W (Kd.C_below H.out.2.2.2 (gout gg)) L.out.2.2.2)).mono ?_
                rintro _ _ ⟨rfl, gg, rfl⟩
                go_wp2_with fail
                go_ret
                exact ⟨ret_bool2 (by simp [stOwn, hh6, hh5, hh4, he3, he2, hh1, hh0]), gout _⟩
            · refine (call_of (g := gg) (body_v (IH.out _ (Or.inl rfl)) hh1 _ _ gg.W (Kd.C_below H.out.2.2.1 (gout gg)) L.out.2.2.1)).mono ?_
              rintro _ _ ⟨rfl, gg, rfl⟩
              go_wp2_with fail
              go_ret
              exact ⟨ret_bool2 (by simp [stOwn, hh6, hh5, hh4, he3, he2, hh1]), gout _⟩
      · refine (call_of (g := gg) (exprForm_v hh4 _ _ gg.W (Kd.C_below H.out.2.1 (gout gg)) L.out.2.1)).mono ?_
        rintro _ _ ⟨rfl, gg, rfl⟩
        go_wp2_with fail
        go_ret
        exact ⟨ret_bool2 (by simp [stOwn, hh6, hh5, hh4]), gout _⟩
    · refine (call_of (g := gg) (none_v hh5 _ _ gg.W (Kd.C_below H.out.1 (gout gg)) L.out.1)).mono ?_
      rintro _ _ ⟨rfl, gg, rfl⟩
      go_wp2_with fail
      go_ret
      exact ⟨ret_bool2 (by simp [stOwn, hh6, hh5]), gout _⟩
  · have he6 : ¬ b.toList = [] := by intro h; rw [h] at hh6; exact absurd hh6 (by decide)
    go_wp2_with fail
    go_ret
    exact ⟨ret_bool2 (by simp [stOwn, hh6]), gout _⟩
end Go.Proofs.YtfigjpehecibeaaGreat.L
end
section
namespace Go.Proofs.YtfigjpehecibeaaGreat.L
open Go.RowKit Go.Proofs.YtfigjpehecibeaaGreatW.PrintWords Go.Proofs.YtfigjpehecibeaaGreatW.PrintLast Go.Proofs.YtfigjpehecibeaaGreatW.PrintMore Go.Proofs.YtfigjpehecibeaaGreat.Gr
set_option linter.unusedVariables false
set_option linter.unusedSimpArgs false
attribute [local go_sem] G.cell
set_option maxHeartbeats 1500000 in
set_option maxRecDepth 100000 in
theorem stmtForm_k4 (b : ByteArray) (cc d : S116) (e f : Int) (g hh : List S119) {A5 : Option Addr} {c5 : Nat} {A9 : Option Addr} {c9 : Nat} {A12 : Option Addr} {c12 : Nat} {A13 : Option Addr} {c13 : Nat} (w : World)
    (L : Aside0 (cc.f3.length ≤ c5 ∧ d.f3.length ≤ c9 ∧ g.length ≤ c12 ∧ hh.length ≤ c13)) (H : Aside0 (k116.C w A5 cc.f3.length cc.f3 ∧ k116.C w A9 d.f3.length d.f3 ∧ k119.C w A12 g.length g ∧ k119.C w A13 hh.length hh))
    (IH : Aside0 (∀ l, l = g ∨ l = hh → BodyC 121 l)) :
    Calls Tryz.prog 168 #[.agg #[.int .i64 4, .string b, .int .i64 cc.f0, .int .u64 cc.f1, .string cc.f2, .slice A5 cc.f3.length c5, .int .i64 d.f0, .int .u64 d.f1, .string d.f2, .slice A9 d.f3.length c9, .int .u64 e, .int .u64 f, .slice A12 g.length c12, .slice A13 hh.length c13]] w fun e' w' => e' = .returned (.bool (stOwn ⟨4, b, cc, d, e, f, g, hh⟩ && bdB g && bdB hh)) ∧ Below w.heap.size w w' := by
  have gout : ∀ {o : Obj} (g : G (w.alloc o)), Below w.heap.size w g.W := fun g => ((Below.refl _ _).alloc (Nat.le_refl _) _).trans (g.below.mono (by simp))
  go_enter Tryz.func168, Tryz.ntmps168
  go_upto_region 1 with (fail)
  refine wp_region_grown (by kernel_rfl) (by kernel_rfl) ?_
  repeat go_big_quiet_step (fail)
  refine wpQuiet_nil ?_
  rintro _ ⟨gg, rfl⟩
  go_wp2_with fail
  rcases bcases (namedB b) with hh5 | hh5
  · refine (call_of (g := gg) (named_v hh5 gg.W)).mono ?_
    rintro _ _ ⟨rfl, gg, rfl⟩
    go_wp2_with fail
    rcases bcases (noneB cc) with hh4 | hh4
    · refine (call_of (g := gg) (none_v hh4 _ _ gg.W (Kd.C_below H.out.1 (gout gg)) L.out.1)).mono ?_
      rintro _ _ ⟨rfl, gg, rfl⟩
      go_wp2_with fail
      rcases bcases (noneB d) with hh3 | hh3
      · refine (call_of (g := gg) (none_v hh3 _ _ gg.W (Kd.C_below H.out.2.1 (gout gg)) L.out.2.1)).mono ?_
        rintro _ _ ⟨rfl, gg, rfl⟩
        rcases Nat.eq_zero_or_pos hh.length with hh2 | hh2
        · have he2 : hh.isEmpty = true := by rw [List.eq_nil_of_length_eq_zero hh2]; rfl
          have hn2 : ¬ 0 < hh.length := by omega
          have hm2 : decide (0 < hh.length) = false := decide_eq_false hn2
          clear hh2
          go_wp2_with fail
          rcases bcases (bdB g) with hh1 | hh1
          · refine (call_of (g := gg) (body_v (IH.out _ (Or.inl rfl)) hh1 _ _ gg.W (Kd.C_below H.out.2.2.1 (gout gg)) L.out.2.2.1)).mono ?_
            rintro _ _ ⟨rfl, gg, rfl⟩
            go_wp2_with fail
            rcases bcases (bdB hh) with hh0 | hh0
            · refine (call_of (g := gg) (body_v (IH.out _ (Or.inr rfl)) hh0 _ _ gg.W (Kd.C_below H.out.2.2.2 (gout gg)) L.out.2.2.2)).mono ?_
              rintro _ _ ⟨rfl, gg, rfl⟩
              go_wp2_with fail
              go_ret
              exact ⟨ret_bool2 (by simp [stOwn, hh5, hh4, hh3, he2, hh1, hh0]), gout _⟩
            · refine (call_of (g := gg) (body_v (IH.out _ (Or.inr rfl)) hh0 _ _ gg.W (Kd.C_below H.out.2.2.2 (gout gg)) L.out.2.2.2)).mono ?_
              rintro _ _ ⟨rfl, gg, rfl⟩
              go_wp2_with fail
              go_ret
              exact ⟨ret_bool2 (by simp [stOwn, hh5, hh4, hh3, he2, hh1, hh0]), gout _⟩
          · refine (call_of (g := gg) (body_v (IH.out _ (Or.inl rfl)) hh1 _ _ gg.W (Kd.C_below H.out.2.2.1 (gout gg)) L.out.2.2.1)).mono ?_
            rintro _ _ ⟨rfl, gg, rfl⟩
            go_wp2_with fail
            go_ret
            exact ⟨ret_bool2 (by simp [stOwn, hh5, hh4, hh3, he2, hh1]), gout _⟩
        · have he2 : hh.isEmpty = false := by rw [List.isEmpty_eq_false_iff]; rintro rfl; exact absurd hh2 (by simp)
          go_wp2_with fail
          go_ret
          exact ⟨ret_bool2 (by simp [stOwn, hh5, hh4, hh3, he2]), gout _⟩
      · refine (call_of (g := gg) (none_v hh3 _ _ gg.W (Kd.C_below H.out.2.1 (gout gg)) L.out.2.1)).mono ?_
        rintro _ _ ⟨rfl, gg, rfl⟩
        go_wp2_with fail
        go_ret
        exact ⟨ret_bool2 (by simp [stOwn, hh5, hh4, hh3]), gout _⟩
    · refine (call_of (g := gg) (none_v hh4 _ _ gg.W (Kd.C_below H.out.1 (gout gg)) L.out.1)).mono ?_
      rintro _ _ ⟨rfl, gg, rfl⟩
      go_wp2_with fail
      go_ret
      exact ⟨ret_bool2 (by simp [stOwn, hh5, hh4]), gout _⟩
  · refine (call_of (g := gg) (named_v hh5 gg.W)).mono ?_
    rintro _ _ ⟨rfl, gg, rfl⟩
    go_wp2_with fail
    go_ret
    exact ⟨ret_bool2 (by simp [stOwn, hh5]), gout _⟩
end Go.Proofs.YtfigjpehecibeaaGreat.L
end
section
namespace Go.Proofs.YtfigjpehecibeaaGreat.L
open Go.RowKit Go.Proofs.YtfigjpehecibeaaGreatW.PrintWords Go.Proofs.YtfigjpehecibeaaGreatW.PrintLast Go.Proofs.YtfigjpehecibeaaGreatW.PrintMore Go.Proofs.YtfigjpehecibeaaGreat.Gr
set_option linter.unusedVariables false
set_option linter.unusedSimpArgs false
attribute [local go_sem] G.cell
set_option maxHeartbeats 1500000 in
set_option maxRecDepth 100000 in
theorem stmtForm_k5 (b : ByteArray) (cc d : S116) (e f : Int) (g hh : List S119) {A5 : Option Addr} {c5 : Nat} {A9 : Option Addr} {c9 : Nat} {A12 : Option Addr} {c12 : Nat} {A13 : Option Addr} {c13 : Nat} (w : World)
    (L : Aside0 (cc.f3.length ≤ c5 ∧ d.f3.length ≤ c9 ∧ g.length ≤ c12 ∧ hh.length ≤ c13)) (H : Aside0 (k116.C w A5 cc.f3.length cc.f3 ∧ k116.C w A9 d.f3.length d.f3 ∧ k119.C w A12 g.length g ∧ k119.C w A13 hh.length hh))
    (IH : Aside0 (∀ l, l = g ∨ l = hh → BodyC 121 l)) :
    Calls Tryz.prog 168 #[.agg #[.int .i64 5, .string b, .int .i64 cc.f0, .int .u64 cc.f1, .string cc.f2, .slice A5 cc.f3.length c5, .int .i64 d.f0, .int .u64 d.f1, .string d.f2, .slice A9 d.f3.length c9, .int .u64 e, .int .u64 f, .slice A12 g.length c12, .slice A13 hh.length c13]] w fun e' w' => e' = .returned (.bool (stOwn ⟨5, b, cc, d, e, f, g, hh⟩ && bdB g && bdB hh)) ∧ Below w.heap.size w w' := by
  have gout : ∀ {o : Obj} (g : G (w.alloc o)), Below w.heap.size w g.W := fun g => ((Below.refl _ _).alloc (Nat.le_refl _) _).trans (g.below.mono (by simp))
  go_enter Tryz.func168, Tryz.ntmps168
  go_upto_region 1 with (fail)
  refine wp_region_grown (by kernel_rfl) (by kernel_rfl) ?_
  repeat go_big_quiet_step (fail)
  refine wpQuiet_nil ?_
  rintro _ ⟨gg, rfl⟩
  go_wp2_with fail
  rcases bcases (namedB b) with hh8 | hh8
  · refine (call_of (g := gg) (named_v hh8 gg.W)).mono ?_
    rintro _ _ ⟨rfl, gg, rfl⟩
    go_wp2_with fail
    rcases bcases (noneB cc) with hh7 | hh7
    · refine (call_of (g := gg) (none_v hh7 _ _ gg.W (Kd.C_below H.out.1 (gout gg)) L.out.1)).mono ?_
      rintro _ _ ⟨rfl, gg, rfl⟩
      go_wp2_with fail
      rcases bcases (noneB d) with hh6 | hh6
      · refine (call_of (g := gg) (none_v hh6 _ _ gg.W (Kd.C_below H.out.2.1 (gout gg)) L.out.2.1)).mono ?_
        rintro _ _ ⟨rfl, gg, rfl⟩
        rcases bcases (e != 0) with hh5 | hh5
        · have he5 : ¬ e = 0 := by simpa using hh5
          go_wp2_with fail
          go_ret
          exact ⟨ret_bool2 (by simp [stOwn, hh8, hh7, hh6, he5]), gout _⟩
        · have he5 : e = 0 := by simpa using hh5
          rcases bcases (f != 0) with hh4 | hh4
          · have he4 : ¬ f = 0 := by simpa using hh4
            go_wp2_with fail
            go_ret
            exact ⟨ret_bool2 (by simp [stOwn, hh8, hh7, hh6, he5, he4]), gout _⟩
          · have he4 : f = 0 := by simpa using hh4
            rcases Nat.eq_zero_or_pos g.length with hh3 | hh3
            · have he3 : g.isEmpty = true := by rw [List.eq_nil_of_length_eq_zero hh3]; rfl
              have hn3 : ¬ 0 < g.length := by omega
              have hm3 : decide (0 < g.length) = false := decide_eq_false hn3
              clear hh3
              rcases Nat.eq_zero_or_pos hh.length with hh2 | hh2
              · have he2 : hh.isEmpty = true := by rw [List.eq_nil_of_length_eq_zero hh2]; rfl
                have hn2 : ¬ 0 < hh.length := by omega
                have hm2 : decide (0 < hh.length) = false := decide_eq_false hn2
                clear hh2
                go_wp2_with fail
                rcases bcases (bdB g) with hh1 | hh1
                · refine (call_of (g := gg) (body_v (IH.out _ (Or.inl rfl)) hh1 _ _ gg.W (Kd.C_below H.out.2.2.1 (gout gg)) L.out.2.2.1)).mono ?_
                  rintro _ _ ⟨rfl, gg, rfl⟩
                  go_wp2_with fail
                  rcases bcases (bdB hh) with hh0 | hh0
                  · refine (call_of (g := gg) (body_v (IH.out _ (Or.inr rfl)) hh0 _ _ gg.W (Kd.C_below H.out.2.2.2 (gout gg)) L.out.2.2.2)).mono ?_
                    rintro _ _ ⟨rfl, gg, rfl⟩
                    go_wp2_with fail
                    go_ret
                    exact ⟨ret_bool2 (by simp [stOwn, hh8, hh7, hh6, he5, he4, he3, he2, hh1, hh0]), gout _⟩
                  · refine (call_of (g := gg) (body_v (IH.out _ (Or.inr rfl)) hh0 _ _ gg.W (Kd.C_below H.out.2.2.2 (gout gg)) L.out.2.2.2)).mono ?_
                    rintro _ _ ⟨rfl, gg, rfl⟩
                    go_wp2_with fail
                    go_ret
                    exact ⟨ret_bool2 (by simp [stOwn, hh8, hh7, hh6, he5, he4, he3, he2, hh1, hh0]), gout _⟩
                · refine (call_of (g := gg) (body_v (IH.out _ (Or.inl rfl)) hh1 _ _ gg.W (Kd.C_below H.out.2.2.1 (gout gg)) L.out.2.2.1)).mono ?_
                  rintro _ _ ⟨rfl, gg, rfl⟩
                  go_wp2_with fail
                  go_ret
                  exact ⟨ret_bool2 (by simp [stOwn, hh8, hh7, hh6, he5, he4, he3, he2, hh1]), gout _⟩
              · have he2 : hh.isEmpty = false := by rw [List.isEmpty_eq_false_iff]; rintro rfl; exact absurd hh2 (by simp)
                go_wp2_with fail
                go_ret
                exact ⟨ret_bool2 (by simp [stOwn, hh8, hh7, hh6, he5, he4, he3, he2]), gout _⟩
            · have he3 : g.isEmpty = false := by rw [List.isEmpty_eq_false_iff]; rintro rfl; exact absurd hh3 (by simp)
              go_wp2_with fail
              go_ret
              exact ⟨ret_bool2 (by simp [stOwn, hh8, hh7, hh6, he5, he4, he3]), gout _⟩
      · refine (call_of (g := gg) (none_v hh6 _ _ gg.W (Kd.C_below H.out.2.1 (gout gg)) L.out.2.1)).mono ?_
        rintro _ _ ⟨rfl, gg, rfl⟩
        go_wp2_with fail
        go_ret
        exact ⟨ret_bool2 (by simp [stOwn, hh8, hh7, hh6]), gout _⟩
    · refine (call_of (g := gg) (none_v hh7 _ _ gg.W (Kd.C_below H.out.1 (gout gg)) L.out.1)).mono ?_
      rintro _ _ ⟨rfl, gg, rfl⟩
      go_wp2_with fail
      go_ret
      exact ⟨ret_bool2 (by simp [stOwn, hh8, hh7]), gout _⟩
  · refine (call_of (g := gg) (named_v hh8 gg.W)).mono ?_
    rintro _ _ ⟨rfl, gg, rfl⟩
    go_wp2_with fail
    go_ret
    exact ⟨ret_bool2 (by simp [stOwn, hh8]), gout _⟩
end Go.Proofs.YtfigjpehecibeaaGreat.L
end
section
namespace Go.Proofs.YtfigjpehecibeaaGreat.L
open Go.RowKit Go.Proofs.YtfigjpehecibeaaGreatW.PrintWords Go.Proofs.YtfigjpehecibeaaGreatW.PrintLast Go.Proofs.YtfigjpehecibeaaGreatW.PrintMore Go.Proofs.YtfigjpehecibeaaGreat.Gr
set_option linter.unusedVariables false
set_option linter.unusedSimpArgs false
attribute [local go_sem] G.cell
set_option maxHeartbeats 1500000 in
set_option maxRecDepth 100000 in
theorem refStmtForm_klt (a : Int) (h1 : a < 1) (b : ByteArray) (cc d : S116) (e f : Int) (g hh : List S119) {A5 : Option Addr} {c5 : Nat} {A9 : Option Addr} {c9 : Nat} {A12 : Option Addr} {c12 : Nat} {A13 : Option Addr} {c13 : Nat} (w : World)
    (L : Aside0 (cc.f3.length ≤ c5 ∧ d.f3.length ≤ c9 ∧ g.length ≤ c12 ∧ hh.length ≤ c13)) (H : Aside0 (k116.C w A5 cc.f3.length cc.f3 ∧ k116.C w A9 d.f3.length d.f3 ∧ k119.C w A12 g.length g ∧ k119.C w A13 hh.length hh))
    (IH : Aside0 (∀ l, l = g ∨ l = hh → BodyC 126 l)) :
    Calls Tryz.prog 172 #[.agg #[.int .i64 a, .string b, .int .i64 cc.f0, .int .u64 cc.f1, .string cc.f2, .slice A5 cc.f3.length c5, .int .i64 d.f0, .int .u64 d.f1, .string d.f2, .slice A9 d.f3.length c9, .int .u64 e, .int .u64 f, .slice A12 g.length c12, .slice A13 hh.length c13]] w fun e' w' => e' = .returned (.bool (stOwn ⟨a, b, cc, d, e, f, g, hh⟩ && bdB g && bdB hh)) ∧ Below w.heap.size w w' := by
  have gout : ∀ {o : Obj} (g : G (w.alloc o)), Below w.heap.size w g.W := fun g => ((Below.refl _ _).alloc (Nat.le_refl _) _).trans (g.below.mono (by simp))
  have h0 : stOwn ⟨a, b, cc, d, e, f, g, hh⟩ = false := by simp [stOwn]; omega
  rw [h0]
  have e2 : (a == 2) = false := by simp; omega
  have e3 : (a == 3) = false := by simp; omega
  have e4 : (a == 4) = false := by simp; omega
  clear h0
  go_enter Tryz.func172, Tryz.ntmps172
  go_upto_region 1 with (fail)
  refine wp_grown ?_
  intro gg
  go_wp2_with fail
  go_ret
  exact ⟨ret_bool2 (by simp), gout _⟩
end Go.Proofs.YtfigjpehecibeaaGreat.L
end
section
namespace Go.Proofs.YtfigjpehecibeaaGreat.L
open Go.RowKit Go.Proofs.YtfigjpehecibeaaGreatW.PrintWords Go.Proofs.YtfigjpehecibeaaGreatW.PrintLast Go.Proofs.YtfigjpehecibeaaGreatW.PrintMore Go.Proofs.YtfigjpehecibeaaGreat.Gr
set_option linter.unusedVariables false
set_option linter.unusedSimpArgs false
attribute [local go_sem] G.cell
set_option maxHeartbeats 1500000 in
set_option maxRecDepth 100000 in
theorem refStmtForm_kgt (a : Int) (h1 : ¬ a < 1) (h2 : a > 5) (b : ByteArray) (cc d : S116) (e f : Int) (g hh : List S119) {A5 : Option Addr} {c5 : Nat} {A9 : Option Addr} {c9 : Nat} {A12 : Option Addr} {c12 : Nat} {A13 : Option Addr} {c13 : Nat} (w : World)
    (L : Aside0 (cc.f3.length ≤ c5 ∧ d.f3.length ≤ c9 ∧ g.length ≤ c12 ∧ hh.length ≤ c13)) (H : Aside0 (k116.C w A5 cc.f3.length cc.f3 ∧ k116.C w A9 d.f3.length d.f3 ∧ k119.C w A12 g.length g ∧ k119.C w A13 hh.length hh))
    (IH : Aside0 (∀ l, l = g ∨ l = hh → BodyC 126 l)) :
    Calls Tryz.prog 172 #[.agg #[.int .i64 a, .string b, .int .i64 cc.f0, .int .u64 cc.f1, .string cc.f2, .slice A5 cc.f3.length c5, .int .i64 d.f0, .int .u64 d.f1, .string d.f2, .slice A9 d.f3.length c9, .int .u64 e, .int .u64 f, .slice A12 g.length c12, .slice A13 hh.length c13]] w fun e' w' => e' = .returned (.bool (stOwn ⟨a, b, cc, d, e, f, g, hh⟩ && bdB g && bdB hh)) ∧ Below w.heap.size w w' := by
  have gout : ∀ {o : Obj} (g : G (w.alloc o)), Below w.heap.size w g.W := fun g => ((Below.refl _ _).alloc (Nat.le_refl _) _).trans (g.below.mono (by simp))
  have h0 : stOwn ⟨a, b, cc, d, e, f, g, hh⟩ = false := by simp [stOwn]; omega
  rw [h0]
  have e2 : (a == 2) = false := by simp; omega
  have e3 : (a == 3) = false := by simp; omega
  have e4 : (a == 4) = false := by simp; omega
  clear h0
  go_enter Tryz.func172, Tryz.ntmps172
  go_upto_region 1 with (fail)
  refine wp_grown ?_
  intro gg
  go_wp2_with fail
  go_ret
  exact ⟨ret_bool2 (by simp), gout _⟩
end Go.Proofs.YtfigjpehecibeaaGreat.L
end
section
namespace Go.Proofs.YtfigjpehecibeaaGreat.L
open Go.RowKit Go.Proofs.YtfigjpehecibeaaGreatW.PrintWords Go.Proofs.YtfigjpehecibeaaGreatW.PrintLast Go.Proofs.YtfigjpehecibeaaGreatW.PrintMore Go.Proofs.YtfigjpehecibeaaGreat.Gr
set_option linter.unusedVariables false
set_option linter.unusedSimpArgs false
attribute [local go_sem] G.cell
set_option maxHeartbeats 1500000 in
set_option maxRecDepth 100000 in
theorem refStmtForm_k1 (b : ByteArray) (cc d : S116) (e f : Int) (g hh : List S119) {A5 : Option Addr} {c5 : Nat} {A9 : Option Addr} {c9 : Nat} {A12 : Option Addr} {c12 : Nat} {A13 : Option Addr} {c13 : Nat} (w : World)
    (L : Aside0 (cc.f3.length ≤ c5 ∧ d.f3.length ≤ c9 ∧ g.length ≤ c12 ∧ hh.length ≤ c13)) (H : Aside0 (k116.C w A5 cc.f3.length cc.f3 ∧ k116.C w A9 d.f3.length d.f3 ∧ k119.C w A12 g.length g ∧ k119.C w A13 hh.length hh))
    (IH : Aside0 (∀ l, l = g ∨ l = hh → BodyC 126 l)) :
    Calls Tryz.prog 172 #[.agg #[.int .i64 1, .string b, .int .i64 cc.f0, .int .u64 cc.f1, .string cc.f2, .slice A5 cc.f3.length c5, .int .i64 d.f0, .int .u64 d.f1, .string d.f2, .slice A9 d.f3.length c9, .int .u64 e, .int .u64 f, .slice A12 g.length c12, .slice A13 hh.length c13]] w fun e' w' => e' = .returned (.bool (stOwn ⟨1, b, cc, d, e, f, g, hh⟩ && bdB g && bdB hh)) ∧ Below w.heap.size w w' := by
  have gout : ∀ {o : Obj} (g : G (w.alloc o)), Below w.heap.size w g.W := fun g => ((Below.refl _ _).alloc (Nat.le_refl _) _).trans (g.below.mono (by simp))
  go_enter Tryz.func172, Tryz.ntmps172
  go_upto_region 1 with (fail)
  refine wp_grown ?_
  intro gg
  rcases bcases b.toList.isEmpty with hh9 | hh9
  · have he9 : b.toList = [] := by exact List.isEmpty_iff.1 hh9
    have hf9 := named_empty he9
    go_wp2_with fail
    go_ret
    exact ⟨ret_bool2 (by simp [stOwn, hf9]), gout _⟩
  · have he9 : ¬ b.toList = [] := by intro h; rw [h] at hh9; exact absurd hh9 (by decide)
    go_wp2_with fail
    rcases bcases (namedB b) with hh8 | hh8
    · refine (call_of (g := gg) (refName_v hh8 gg.W)).mono ?_
      rintro _ _ ⟨rfl, gg, rfl⟩
      go_wp2_with fail
      rcases bcases (noneB cc) with hh7 | hh7
      · refine (call_of (g := gg) (refNone_v hh7 _ _ gg.W (Kd.C_below H.out.1 (gout gg)) L.out.1)).mono ?_
        rintro _ _ ⟨rfl, gg, rfl⟩
        go_wp2_with fail
        rcases bcases (exB d) with hh6 | hh6
        · refine (call_of (g := gg) (refExprForm_v hh6 _ _ gg.W (Kd.C_below H.out.2.1 (gout gg)) L.out.2.1)).mono ?_
          rintro _ _ ⟨rfl, gg, rfl⟩
          rcases bcases (e != 0) with hh5 | hh5
          · have he5 : ¬ e = 0 := by simpa using hh5
            go_wp2_with fail
            go_ret
            exact ⟨ret_bool2 (by simp [stOwn, hh9, hh8, hh7, hh6, he5]), gout _⟩
          · have he5 : e = 0 := by simpa using hh5
            rcases bcases (f != 0) with hh4 | hh4
            · have he4 : ¬ f = 0 := by simpa using hh4
              go_wp2_with fail
              go_ret
              exact ⟨ret_bool2 (by simp [stOwn, hh9, hh8, hh7, hh6, he5, he4]), gout _⟩
            · have he4 : f = 0 := by simpa using hh4
              rcases Nat.eq_zero_or_pos hh.length with hh3 | hh3
              · have he3 : hh.isEmpty = true := by rw [List.eq_nil_of_length_eq_zero hh3]; rfl
                have hn3 : ¬ 0 < hh.length := by omega
                have hm3 : decide (0 < hh.length) = false := decide_eq_false hn3
                clear hh3
                rcases Nat.eq_zero_or_pos g.length with hh2 | hh2
                · have he2 : g.isEmpty = true := by rw [List.eq_nil_of_length_eq_zero hh2]; rfl
                  have hn2 : ¬ 0 < g.length := by omega
                  have hm2 : decide (0 < g.length) = false := decide_eq_false hn2
                  clear hh2
                  go_wp2_with fail
                  rcases bcases (bdB g) with hh1 | hh1
                  · refine (call_of (g := gg) (body_v (IH.out _ (Or.inl rfl)) hh1 _ _ gg.W (Kd.C_below H.out.2.2.1 (gout gg)) L.out.2.2.1)).mono ?_
                    rintro _ _ ⟨rfl, gg, rfl⟩
                    go_wp2_with fail
                    rcases bcases (bdB hh) with hh0 | hh0
                    · refine (call_of (g := gg) (body_v (IH.out _ (Or.inr rfl)) hh0 _ _ gg.W (Kd.C_below H.out.2.2.2 (gout gg)) L.out.2.2.2)).mono ?_
                      rintro _ _ ⟨rfl, gg, rfl⟩
                      go_wp2_with fail
                      go_ret
                      exact ⟨ret_bool2 (by simp [stOwn, hh9, hh8, hh7, hh6, he5, he4, he3, he2, hh1, hh0]), gout _⟩
                    · refine (call_of (g := gg) (body_v (IH.out _ (Or.inr rfl)) hh0 _ _ gg.W (Kd.C_below H.out.2.2.2 (gout gg)) L.out.2.2.2)).mono ?_
                      rintro _ _ ⟨rfl, gg, rfl⟩
                      go_wp2_with fail
                      go_ret
                      exact ⟨ret_bool2 (by simp [stOwn, hh9, hh8, hh7, hh6, he5, he4, he3, he2, hh1, hh0]), gout _⟩
                  · refine (call_of (g := gg) (body_v (IH.out _ (Or.inl rfl)) hh1 _ _ gg.W (Kd.C_below H.out.2.2.1 (gout gg)) L.out.2.2.1)).mono ?_
                    rintro _ _ ⟨rfl, gg, rfl⟩
                    go_wp2_with fail
                    go_ret
                    exact ⟨ret_bool2 (by simp [stOwn, hh9, hh8, hh7, hh6, he5, he4, he3, he2, hh1]), gout _⟩
                · have he2 : g.isEmpty = false := by rw [List.isEmpty_eq_false_iff]; rintro rfl; exact absurd hh2 (by simp)
                  go_wp2_with fail
                  go_ret
                  exact ⟨ret_bool2 (by simp [stOwn, hh9, hh8, hh7, hh6, he5, he4, he3, he2]), gout _⟩
              · have he3 : hh.isEmpty = false := by rw [List.isEmpty_eq_false_iff]; rintro rfl; exact absurd hh3 (by simp)
                go_wp2_with fail
                go_ret
                exact ⟨ret_bool2 (by simp [stOwn, hh9, hh8, hh7, hh6, he5, he4, he3]), gout _⟩
        · refine (call_of (g := gg) (refExprForm_v hh6 _ _ gg.W (Kd.C_below H.out.2.1 (gout gg)) L.out.2.1)).mono ?_
          rintro _ _ ⟨rfl, gg, rfl⟩
          go_wp2_with fail
          go_ret
          exact ⟨ret_bool2 (by simp [stOwn, hh9, hh8, hh7, hh6]), gout _⟩
      · refine (call_of (g := gg) (refNone_v hh7 _ _ gg.W (Kd.C_below H.out.1 (gout gg)) L.out.1)).mono ?_
        rintro _ _ ⟨rfl, gg, rfl⟩
        go_wp2_with fail
        go_ret
        exact ⟨ret_bool2 (by simp [stOwn, hh9, hh8, hh7]), gout _⟩
    · refine (call_of (g := gg) (refName_v hh8 gg.W)).mono ?_
      rintro _ _ ⟨rfl, gg, rfl⟩
      go_wp2_with fail
      go_ret
      exact ⟨ret_bool2 (by simp [stOwn, hh9, hh8]), gout _⟩
end Go.Proofs.YtfigjpehecibeaaGreat.L
end
section
namespace Go.Proofs.YtfigjpehecibeaaGreat.L
open Go.RowKit Go.Proofs.YtfigjpehecibeaaGreatW.PrintWords Go.Proofs.YtfigjpehecibeaaGreatW.PrintLast Go.Proofs.YtfigjpehecibeaaGreatW.PrintMore Go.Proofs.YtfigjpehecibeaaGreat.Gr
set_option linter.unusedVariables false
set_option linter.unusedSimpArgs false
attribute [local go_sem] G.cell
set_option maxHeartbeats 1500000 in
set_option maxRecDepth 100000 in
theorem refStmtForm_k2 (b : ByteArray) (cc d : S116) (e f : Int) (g hh : List S119) {A5 : Option Addr} {c5 : Nat} {A9 : Option Addr} {c9 : Nat} {A12 : Option Addr} {c12 : Nat} {A13 : Option Addr} {c13 : Nat} (w : World)
    (L : Aside0 (cc.f3.length ≤ c5 ∧ d.f3.length ≤ c9 ∧ g.length ≤ c12 ∧ hh.length ≤ c13)) (H : Aside0 (k116.C w A5 cc.f3.length cc.f3 ∧ k116.C w A9 d.f3.length d.f3 ∧ k119.C w A12 g.length g ∧ k119.C w A13 hh.length hh))
    (IH : Aside0 (∀ l, l = g ∨ l = hh → BodyC 126 l)) :
    Calls Tryz.prog 172 #[.agg #[.int .i64 2, .string b, .int .i64 cc.f0, .int .u64 cc.f1, .string cc.f2, .slice A5 cc.f3.length c5, .int .i64 d.f0, .int .u64 d.f1, .string d.f2, .slice A9 d.f3.length c9, .int .u64 e, .int .u64 f, .slice A12 g.length c12, .slice A13 hh.length c13]] w fun e' w' => e' = .returned (.bool (stOwn ⟨2, b, cc, d, e, f, g, hh⟩ && bdB g && bdB hh)) ∧ Below w.heap.size w w' := by
  have gout : ∀ {o : Obj} (g : G (w.alloc o)), Below w.heap.size w g.W := fun g => ((Below.refl _ _).alloc (Nat.le_refl _) _).trans (g.below.mono (by simp))
  go_enter Tryz.func172, Tryz.ntmps172
  go_upto_region 1 with (fail)
  refine wp_grown ?_
  intro gg
  rcases bcases b.toList.isEmpty with hh9 | hh9
  · have he9 : b.toList = [] := by exact List.isEmpty_iff.1 hh9
    have hf9 := named_empty he9
    go_wp2_with fail
    go_ret
    exact ⟨ret_bool2 (by simp [stOwn, hf9]), gout _⟩
  · have he9 : ¬ b.toList = [] := by intro h; rw [h] at hh9; exact absurd hh9 (by decide)
    go_wp2_with fail
    rcases bcases (namedB b) with hh8 | hh8
    · refine (call_of (g := gg) (refName_v hh8 gg.W)).mono ?_
      rintro _ _ ⟨rfl, gg, rfl⟩
      go_wp2_with fail
      rcases bcases (exB cc) with hh7 | hh7
      · refine (call_of (g := gg) (refExprForm_v hh7 _ _ gg.W (Kd.C_below H.out.1 (gout gg)) L.out.1)).mono ?_
        rintro _ _ ⟨rfl, gg, rfl⟩
        go_wp2_with fail
        rcases bcases (exB d) with hh6 | hh6
        · refine (call_of (g := gg) (refExprForm_v hh6 _ _ gg.W (Kd.C_below H.out.2.1 (gout gg)) L.out.2.1)).mono ?_
          rintro _ _ ⟨rfl, gg, rfl⟩
          rcases bcases (e != 0) with hh5 | hh5
          · have he5 : ¬ e = 0 := by simpa using hh5
            go_wp2_with fail
            go_ret
            exact ⟨ret_bool2 (by simp [stOwn, hh9, hh8, hh7, hh6, he5]), gout _⟩
          · have he5 : e = 0 := by simpa using hh5
            rcases bcases (f != 0) with hh4 | hh4
            · have he4 : ¬ f = 0 := by simpa using hh4
              go_wp2_with fail
              go_ret
              exact ⟨ret_bool2 (by simp [stOwn, hh9, hh8, hh7, hh6, he5, he4]), gout _⟩
            · have he4 : f = 0 := by simpa using hh4
              rcases Nat.eq_zero_or_pos hh.length with hh3 | hh3
              · have he3 : hh.isEmpty = true := by rw [List.eq_nil_of_length_eq_zero hh3]; rfl
                have hn3 : ¬ 0 < hh.length := by omega
                have hm3 : decide (0 < hh.length) = false := decide_eq_false hn3
                clear hh3
                rcases Nat.eq_zero_or_pos g.length with hh2 | hh2
                · have he2 : g.isEmpty = true := by rw [List.eq_nil_of_length_eq_zero hh2]; rfl
                  have hn2 : ¬ 0 < g.length := by omega
                  have hm2 : decide (0 < g.length) = false := decide_eq_false hn2
                  clear hh2
                  go_wp2_with fail
                  rcases bcases (bdB g) with hh1 | hh1
                  · refine (call_of (g := gg) (body_v (IH.out _ (Or.inl rfl)) hh1 _ _ gg.W (Kd.C_below H.out.2.2.1 (gout gg)) L.out.2.2.1)).mono ?_
                    rintro _ _ ⟨rfl, gg, rfl⟩
                    go_wp2_with fail
                    rcases bcases (bdB hh) with hh0 | hh0
                    · refine (call_of (g := gg) (body_v (IH.out _ (Or.inr rfl)) hh0 _ _ gg.W (Kd.C_below H.out.2.2.2 (gout gg)) L.out.2.2.2)).mono ?_
                      rintro _ _ ⟨rfl, gg, rfl⟩
                      go_wp2_with fail
                      go_ret
                      exact ⟨ret_bool2 (by simp [stOwn, hh9, hh8, hh7, hh6, he5, he4, he3, he2, hh1, hh0]), gout _⟩
                    · refine (call_of (g := gg) (body_v (IH.out _ (Or.inr rfl)) hh0 _ _ gg.W (Kd.C_below H.out.2.2.2 (gout gg)) L.out.2.2.2)).mono ?_
                      rintro _ _ ⟨rfl, gg, rfl⟩
                      go_wp2_with fail
                      go_ret
                      exact ⟨ret_bool2 (by simp [stOwn, hh9, hh8, hh7, hh6, he5, he4, he3, he2, hh1, hh0]), gout _⟩
                  · refine (call_of (g := gg) (body_v (IH.out _ (Or.inl rfl)) hh1 _ _ gg.W (Kd.C_below H.out.2.2.1 (gout gg)) L.out.2.2.1)).mono ?_
                    rintro _ _ ⟨rfl, gg, rfl⟩
                    go_wp2_with fail
                    go_ret
                    exact ⟨ret_bool2 (by simp [stOwn, hh9, hh8, hh7, hh6, he5, he4, he3, he2, hh1]), gout _⟩
                · have he2 : g.isEmpty = false := by rw [List.isEmpty_eq_false_iff]; rintro rfl; exact absurd hh2 (by simp)
                  go_wp2_with fail
                  go_ret
                  exact ⟨ret_bool2 (by simp [stOwn, hh9, hh8, hh7, hh6, he5, he4, he3, he2]), gout _⟩
              · have he3 : hh.isEmpty = false := by rw [List.isEmpty_eq_false_iff]; rintro rfl; exact absurd hh3 (by simp)
                go_wp2_with fail
                go_ret
                exact ⟨ret_bool2 (by simp [stOwn, hh9, hh8, hh7, hh6, he5, he4, he3]), gout _⟩
        · refine (call_of (g := gg) (refExprForm_v hh6 _ _ gg.W (Kd.C_below H.out.2.1 (gout gg)) L.out.2.1)).mono ?_
          rintro _ _ ⟨rfl, gg, rfl⟩
          go_wp2_with fail
          go_ret
          exact ⟨ret_bool2 (by simp [stOwn, hh9, hh8, hh7, hh6]), gout _⟩
      · refine (call_of (g := gg) (refExprForm_v hh7 _ _ gg.W (Kd.C_below H.out.1 (gout gg)) L.out.1)).mono ?_
        rintro _ _ ⟨rfl, gg, rfl⟩
        go_wp2_with fail
        go_ret
        exact ⟨ret_bool2 (by simp [stOwn, hh9, hh8, hh7]), gout _⟩
    · refine (call_of (g := gg) (refName_v hh8 gg.W)).mono ?_
      rintro _ _ ⟨rfl, gg, rfl⟩
      go_wp2_with fail
      go_ret
      exact ⟨ret_bool2 (by simp [stOwn, hh9, hh8]), gout _⟩
end Go.Proofs.YtfigjpehecibeaaGreat.L
end
section
namespace Go.Proofs.YtfigjpehecibeaaGreat.L
open Go.RowKit Go.Proofs.YtfigjpehecibeaaGreatW.PrintWords Go.Proofs.YtfigjpehecibeaaGreatW.PrintLast Go.Proofs.YtfigjpehecibeaaGreatW.PrintMore Go.Proofs.YtfigjpehecibeaaGreat.Gr
set_option linter.unusedVariables false
set_option linter.unusedSimpArgs false
attribute [local go_sem] G.cell
set_option maxHeartbeats 1500000 in
set_option maxRecDepth 100000 in
theorem refStmtForm_k3 (b : ByteArray) (cc d : S116) (e f : Int) (g hh : List S119) {A5 : Option Addr} {c5 : Nat} {A9 : Option Addr} {c9 : Nat} {A12 : Option Addr} {c12 : Nat} {A13 : Option Addr} {c13 : Nat} (w : World)
    (L : Aside0 (cc.f3.length ≤ c5 ∧ d.f3.length ≤ c9 ∧ g.length ≤ c12 ∧ hh.length ≤ c13)) (H : Aside0 (k116.C w A5 cc.f3.length cc.f3 ∧ k116.C w A9 d.f3.length d.f3 ∧ k119.C w A12 g.length g ∧ k119.C w A13 hh.length hh))
    (IH : Aside0 (∀ l, l = g ∨ l = hh → BodyC 126 l)) :
    Calls Tryz.prog 172 #[.agg #[.int .i64 3, .string b, .int .i64 cc.f0, .int .u64 cc.f1, .string cc.f2, .slice A5 cc.f3.length c5, .int .i64 d.f0, .int .u64 d.f1, .string d.f2, .slice A9 d.f3.length c9, .int .u64 e, .int .u64 f, .slice A12 g.length c12, .slice A13 hh.length c13]] w fun e' w' => e' = .returned (.bool (stOwn ⟨3, b, cc, d, e, f, g, hh⟩ && bdB g && bdB hh)) ∧ Below w.heap.size w w' := by
  have gout : ∀ {o : Obj} (g : G (w.alloc o)), Below w.heap.size w g.W := fun g => ((Below.refl _ _).alloc (Nat.le_refl _) _).trans (g.below.mono (by simp))
  go_enter Tryz.func172, Tryz.ntmps172
  go_upto_region 1 with (fail)
  refine wp_grown ?_
  intro gg
  rcases bcases b.toList.isEmpty with hh6 | hh6
  · have he6 : b.toList = [] := by exact List.isEmpty_iff.1 hh6
    go_wp2_with fail
    rcases bcases (noneB cc) with hh5 | hh5
    · refine (call_of (g := gg) (refNone_v hh5 _ _ gg.W (Kd.C_below H.out.1 (gout gg)) L.out.1)).mono ?_
      rintro _ _ ⟨rfl, gg, rfl⟩
      go_wp2_with fail
      rcases bcases (exB d) with hh4 | hh4
      · refine (call_of (g := gg) (refExprForm_v hh4 _ _ gg.W (Kd.C_below H.out.2.1 (gout gg)) L.out.2.1)).mono ?_
        rintro _ _ ⟨rfl, gg, rfl⟩
        rcases bcases (e != 0) with hh3 | hh3
        · have he3 : ¬ e = 0 := by simpa using hh3
          go_wp2_with fail
          go_ret
          exact ⟨ret_bool2 (by simp [stOwn, hh6, hh5, hh4, he3]), gout _⟩
        · have he3 : e = 0 := by simpa using hh3
          rcases bcases (f != 0) with hh2 | hh2
          · have he2 : ¬ f = 0 := by simpa using hh2
            go_wp2_with fail
            go_ret
            exact ⟨ret_bool2 (by simp [stOwn, hh6, hh5, hh4, he3, he2]), gout _⟩
          · have he2 : f = 0 := by simpa using hh2
            go_wp2_with fail
            rcases bcases (bdB g) with hh1 | hh1
            · refine (call_of (g := gg) (body_v (IH.out _ (Or.inl rfl)) hh1 _ _ gg.W (Kd.C_below H.out.2.2.1 (gout gg)) L.out.2.2.1)).mono ?_
              rintro _ _ ⟨rfl, gg, rfl⟩
              go_wp2_with fail
              rcases bcases (bdB hh) with hh0 | hh0
              · refine (call_of (g := gg) (body_v (IH.out _ (Or.inr rfl)) hh0 _ _ gg.W (Kd.C_below H.out.2.2.2 (gout gg)) L.out.2.2.2)).mono ?_
                rintro _ _ ⟨rfl, gg, rfl⟩
                go_wp2_with fail
                go_ret
                exact ⟨ret_bool2 (by simp [stOwn, hh6, hh5, hh4, he3, he2, hh1, hh0]), gout _⟩
              · refine (call_of (g := gg) (body_v (IH.out _ (Or.inr rfl)) hh0 _ _ gg.W (Kd.C_below H.out.2.2.2 (gout gg)) L.out.2.2.2)).mono ?_
                rintro _ _ ⟨rfl, gg, rfl⟩
                go_wp2_with fail
                go_ret
                exact ⟨ret_bool2 (by simp [stOwn, hh6, hh5, hh4, he3, he2, hh1, hh0]), gout _⟩
            · refine (call_of (g := gg) (body_v (IH.out _ (Or.inl rfl)) hh1 _ _ gg.W (Kd.C_below H.out.2.2.1 (gout gg)) L.out.2.2.1)).mono ?_
              rintro _ _ ⟨rfl, gg, rfl⟩
              go_wp2_with fail
              go_ret
              exact ⟨ret_bool2 (by simp [stOwn, hh6, hh5, hh4, he3, he2, hh1]), gout _⟩
      · refine (call_of (g := gg) (refExprForm_v hh4 _ _ gg.W (Kd.C_below H.out.2.1 (gout gg)) L.out.2.1)).mono ?_
        rintro _ _ ⟨rfl, gg, rfl⟩
        go_wp2_with fail
        go_ret
        exact ⟨ret_bool2 (by simp [stOwn, hh6, hh5, hh4]), gout _⟩
    · refine (call_of (g := gg) (refNone_v hh5 _ _ gg.W (Kd.C_below H.out.1 (gout gg)) L.out.1)).mono ?_
      rintro _ _ ⟨rfl, gg, rfl⟩
      go_wp2_with fail
      go_ret
      exact ⟨ret_bool2 (by simp [stOwn, hh6, hh5]), gout _⟩
  · have he6 : ¬ b.toList = [] := by intro h; rw [h] at hh6; exact absurd hh6 (by decide)
    go_wp2_with fail
    go_ret
    exact ⟨ret_bool2 (by simp [stOwn, hh6]), gout _⟩
end Go.Proofs.YtfigjpehecibeaaGreat.L
end
section
namespace Go.Proofs.YtfigjpehecibeaaGreat.L
open Go.RowKit Go.Proofs.YtfigjpehecibeaaGreatW.PrintWords Go.Proofs.YtfigjpehecibeaaGreatW.PrintLast Go.Proofs.YtfigjpehecibeaaGreatW.PrintMore Go.Proofs.YtfigjpehecibeaaGreat.Gr
set_option linter.unusedVariables false
set_option linter.unusedSimpArgs false
attribute [local go_sem] G.cell
set_option maxHeartbeats 1500000 in
set_option maxRecDepth 100000 in
theorem refStmtForm_k4 (b : ByteArray) (cc d : S116) (e f : Int) (g hh : List S119) {A5 : Option Addr} {c5 : Nat} {A9 : Option Addr} {c9 : Nat} {A12 : Option Addr} {c12 : Nat} {A13 : Option Addr} {c13 : Nat} (w : World)
    (L : Aside0 (cc.f3.length ≤ c5 ∧ d.f3.length ≤ c9 ∧ g.length ≤ c12 ∧ hh.length ≤ c13)) (H : Aside0 (k116.C w A5 cc.f3.length cc.f3 ∧ k116.C w A9 d.f3.length d.f3 ∧ k119.C w A12 g.length g ∧ k119.C w A13 hh.length hh))
    (IH : Aside0 (∀ l, l = g ∨ l = hh → BodyC 126 l)) :
    Calls Tryz.prog 172 #[.agg #[.int .i64 4, .string b, .int .i64 cc.f0, .int .u64 cc.f1, .string cc.f2, .slice A5 cc.f3.length c5, .int .i64 d.f0, .int .u64 d.f1, .string d.f2, .slice A9 d.f3.length c9, .int .u64 e, .int .u64 f, .slice A12 g.length c12, .slice A13 hh.length c13]] w fun e' w' => e' = .returned (.bool (stOwn ⟨4, b, cc, d, e, f, g, hh⟩ && bdB g && bdB hh)) ∧ Below w.heap.size w w' := by
  have gout : ∀ {o : Obj} (g : G (w.alloc o)), Below w.heap.size w g.W := fun g => ((Below.refl _ _).alloc (Nat.le_refl _) _).trans (g.below.mono (by simp))
  go_enter Tryz.func172, Tryz.ntmps172
  go_upto_region 1 with (fail)
  refine wp_grown ?_
  intro gg
  rcases bcases b.toList.isEmpty with hh6 | hh6
  · have he6 : b.toList = [] := by exact List.isEmpty_iff.1 hh6
    have hf6 := named_empty he6
    go_wp2_with fail
    go_ret
    exact ⟨ret_bool2 (by simp [stOwn, hf6]), gout _⟩
  · have he6 : ¬ b.toList = [] := by intro h; rw [h] at hh6; exact absurd hh6 (by decide)
    go_wp2_with fail
    rcases bcases (namedB b) with hh5 | hh5
    · refine (call_of (g := gg) (refName_v hh5 gg.W)).mono ?_
      rintro _ _ ⟨rfl, gg, rfl⟩
      go_wp2_with fail
      rcases bcases (noneB cc) with hh4 | hh4
      · refine (call_of (g := gg) (refNone_v hh4 _ _ gg.W (Kd.C_below H.out.1 (gout gg)) L.out.1)).mono ?_
        rintro _ _ ⟨rfl, gg, rfl⟩
        go_wp2_with fail
        rcases bcases (noneB d) with hh3 | hh3
        · refine (call_of (g := gg) (refNone_v hh3 _ _ gg.W (Kd.C_below H.out.2.1 (gout gg)) L.out.2.1)).mono ?_
          rintro _ _ ⟨rfl, gg, rfl⟩
          rcases Nat.eq_zero_or_pos hh.length with hh2 | hh2
          · have he2 : hh.isEmpty = true := by rw [List.eq_nil_of_length_eq_zero hh2]; rfl
            have hn2 : ¬ 0 < hh.length := by omega
            have hm2 : decide (0 < hh.length) = false := decide_eq_false hn2
            clear hh2
            go_wp2_with fail
            rcases bcases (bdB g) with hh1 | hh1
            · refine (call_of (g := gg) (body_v (IH.out _ (Or.inl rfl)) hh1 _ _ gg.W (Kd.C_below H.out.2.2.1 (gout gg)) L.out.2.2.1)).mono ?_
              rintro _ _ ⟨rfl, gg, rfl⟩
              go_wp2_with fail
              rcases bcases (bdB hh) with hh0 | hh0
              · refine (call_of (g := gg) (body_v (IH.out _ (Or.inr rfl)) hh0 _ _ gg.W (Kd.C_below H.out.2.2.2 (gout gg)) L.out.2.2.2)).mono ?_
                rintro _ _ ⟨rfl, gg, rfl⟩
                go_wp2_with fail
                go_ret
                exact ⟨ret_bool2 (by simp [stOwn, hh6, hh5, hh4, hh3, he2, hh1, hh0]), gout _⟩
              · refine (call_of (g := gg) (body_v (IH.out _ (Or.inr rfl)) hh0 _ _ gg.W (Kd.C_below H.out.2.2.2 (gout gg)) L.out.2.2.2)).mono ?_
                rintro _ _ ⟨rfl, gg, rfl⟩
                go_wp2_with fail
                go_ret
                exact ⟨ret_bool2 (by simp [stOwn, hh6, hh5, hh4, hh3, he2, hh1, hh0]), gout _⟩
            · refine (call_of (g := gg) (body_v (IH.out _ (Or.inl rfl)) hh1 _ _ gg.W (Kd.C_below H.out.2.2.1 (gout gg)) L.out.2.2.1)).mono ?_
              rintro _ _ ⟨rfl, gg, rfl⟩
              go_wp2_with fail
              go_ret
              exact ⟨ret_bool2 (by simp [stOwn, hh6, hh5, hh4, hh3, he2, hh1]), gout _⟩
          · have he2 : hh.isEmpty = false := by rw [List.isEmpty_eq_false_iff]; rintro rfl; exact absurd hh2 (by simp)
            go_wp2_with fail
            go_ret
            exact ⟨ret_bool2 (by simp [stOwn, hh6, hh5, hh4, hh3, he2]), gout _⟩
        · refine (call_of (g := gg) (refNone_v hh3 _ _ gg.W (Kd.C_below H.out.2.1 (gout gg)) L.out.2.1)).mono ?_
          rintro _ _ ⟨rfl, gg, rfl⟩
          go_wp2_with fail
          go_ret
          exact ⟨ret_bool2 (by simp [stOwn, hh6, hh5, hh4, hh3]), gout _⟩
      · refine (call_of (g := gg) (refNone_v hh4 _ _ gg.W (Kd.C_below H.out.1 (gout gg)) L.out.1)).mono ?_
        rintro _ _ ⟨rfl, gg, rfl⟩
        go_wp2_with fail
        go_ret
        exact ⟨ret_bool2 (by simp [stOwn, hh6, hh5, hh4]), gout _⟩
    · refine (call_of (g := gg) (refName_v hh5 gg.W)).mono ?_
      rintro _ _ ⟨rfl, gg, rfl⟩
      go_wp2_with fail
      go_ret
      exact ⟨ret_bool2 (by simp [stOwn, hh6, hh5]), gout _⟩
end Go.Proofs.YtfigjpehecibeaaGreat.L
end
section
namespace Go.Proofs.YtfigjpehecibeaaGreat.L
open Go.RowKit Go.Proofs.YtfigjpehecibeaaGreatW.PrintWords Go.Proofs.YtfigjpehecibeaaGreatW.PrintLast Go.Proofs.YtfigjpehecibeaaGreatW.PrintMore Go.Proofs.YtfigjpehecibeaaGreat.Gr
set_option linter.unusedVariables false
set_option linter.unusedSimpArgs false
attribute [local go_sem] G.cell
set_option maxHeartbeats 1500000 in
set_option maxRecDepth 100000 in
theorem refStmtForm_k5 (b : ByteArray) (cc d : S116) (e f : Int) (g hh : List S119) {A5 : Option Addr} {c5 : Nat} {A9 : Option Addr} {c9 : Nat} {A12 : Option Addr} {c12 : Nat} {A13 : Option Addr} {c13 : Nat} (w : World)
    (L : Aside0 (cc.f3.length ≤ c5 ∧ d.f3.length ≤ c9 ∧ g.length ≤ c12 ∧ hh.length ≤ c13)) (H : Aside0 (k116.C w A5 cc.f3.length cc.f3 ∧ k116.C w A9 d.f3.length d.f3 ∧ k119.C w A12 g.length g ∧ k119.C w A13 hh.length hh))
    (IH : Aside0 (∀ l, l = g ∨ l = hh → BodyC 126 l)) :
    Calls Tryz.prog 172 #[.agg #[.int .i64 5, .string b, .int .i64 cc.f0, .int .u64 cc.f1, .string cc.f2, .slice A5 cc.f3.length c5, .int .i64 d.f0, .int .u64 d.f1, .string d.f2, .slice A9 d.f3.length c9, .int .u64 e, .int .u64 f, .slice A12 g.length c12, .slice A13 hh.length c13]] w fun e' w' => e' = .returned (.bool (stOwn ⟨5, b, cc, d, e, f, g, hh⟩ && bdB g && bdB hh)) ∧ Below w.heap.size w w' := by
  have gout : ∀ {o : Obj} (g : G (w.alloc o)), Below w.heap.size w g.W := fun g => ((Below.refl _ _).alloc (Nat.le_refl _) _).trans (g.below.mono (by simp))
  go_enter Tryz.func172, Tryz.ntmps172
  go_upto_region 1 with (fail)
  refine wp_grown ?_
  intro gg
  rcases bcases b.toList.isEmpty with hh9 | hh9
  · have he9 : b.toList = [] := by exact List.isEmpty_iff.1 hh9
    have hf9 := named_empty he9
    go_wp2_with fail
    go_ret
    exact ⟨ret_bool2 (by simp [stOwn, hf9]), gout _⟩
  · have he9 : ¬ b.toList = [] := by intro h; rw [h] at hh9; exact absurd hh9 (by decide)
    go_wp2_with fail
    rcases bcases (namedB b) with hh8 | hh8
    · refine (call_of (g := gg) (refName_v hh8 gg.W)).mono ?_
      rintro _ _ ⟨rfl, gg, rfl⟩
      go_wp2_with fail
      rcases bcases (noneB cc) with hh7 | hh7
      · refine (call_of (g := gg) (refNone_v hh7 _ _ gg.W (Kd.C_below H.out.1 (gout gg)) L.out.1)).mono ?_
        rintro _ _ ⟨rfl, gg, rfl⟩
        go_wp2_with fail
        rcases bcases (noneB d) with hh6 | hh6
        · refine (call_of (g := gg) (refNone_v hh6 _ _ gg.W (Kd.C_below H.out.2.1 (gout gg)) L.out.2.1)).mono ?_
          rintro _ _ ⟨rfl, gg, rfl⟩
          rcases bcases (e != 0) with hh5 | hh5
          · have he5 : ¬ e = 0 := by simpa using hh5
            go_wp2_with fail
            go_ret
            exact ⟨ret_bool2 (by simp [stOwn, hh9, hh8, hh7, hh6, he5]), gout _⟩
          · have he5 : e = 0 := by simpa using hh5
            rcases bcases (f != 0) with hh4 | hh4
            · have he4 : ¬ f = 0 := by simpa using hh4
              go_wp2_with fail
              go_ret
              exact ⟨ret_bool2 (by simp [stOwn, hh9, hh8, hh7, hh6, he5, he4]), gout _⟩
            · have he4 : f = 0 := by simpa using hh4
              rcases Nat.eq_zero_or_pos hh.length with hh3 | hh3
              · have he3 : hh.isEmpty = true := by rw [List.eq_nil_of_length_eq_zero hh3]; rfl
                have hn3 : ¬ 0 < hh.length := by omega
                have hm3 : decide (0 < hh.length) = false := decide_eq_false hn3
                clear hh3
                rcases Nat.eq_zero_or_pos g.length with hh2 | hh2
                · have he2 : g.isEmpty = true := by rw [List.eq_nil_of_length_eq_zero hh2]; rfl
                  have hn2 : ¬ 0 < g.length := by omega
                  have hm2 : decide (0 < g.length) = false := decide_eq_false hn2
                  clear hh2
                  go_wp2_with fail
                  rcases bcases (bdB g) with hh1 | hh1
                  · refine (call_of (g := gg) (body_v (IH.out _ (Or.inl rfl)) hh1 _ _ gg.W (Kd.C_below H.out.2.2.1 (gout gg)) L.out.2.2.1)).mono ?_
                    rintro _ _ ⟨rfl, gg, rfl⟩
                    go_wp2_with fail
                    rcases bcases (bdB hh) with hh0 | hh0
                    · refine (call_of (g := gg) (body_v (IH.out _ (Or.inr rfl)) hh0 _ _ gg.W (Kd.C_below H.out.2.2.2 (gout gg)) L.out.2.2.2)).mono ?_
                      rintro _ _ ⟨rfl, gg, rfl⟩
                      go_wp2_with fail
                      go_ret
                      exact ⟨ret_bool2 (by simp [stOwn, hh9, hh8, hh7, hh6, he5, he4, he3, he2, hh1, hh0]), gout _⟩
                    · refine (call_of (g := gg) (body_v (IH.out _ (Or.inr rfl)) hh0 _ _ gg.W (Kd.C_below H.out.2.2.2 (gout gg)) L.out.2.2.2)).mono ?_
                      rintro _ _ ⟨rfl, gg, rfl⟩
                      go_wp2_with fail
                      go_ret
                      exact ⟨ret_bool2 (by simp [stOwn, hh9, hh8, hh7, hh6, he5, he4, he3, he2, hh1, hh0]), gout _⟩
                  · refine (call_of (g := gg) (body_v (IH.out _ (Or.inl rfl)) hh1 _ _ gg.W (Kd.C_below H.out.2.2.1 (gout gg)) L.out.2.2.1)).mono ?_
                    rintro _ _ ⟨rfl, gg, rfl⟩
                    go_wp2_with fail
                    go_ret
                    exact ⟨ret_bool2 (by simp [stOwn, hh9, hh8, hh7, hh6, he5, he4, he3, he2, hh1]), gout _⟩
                · have he2 : g.isEmpty = false := by rw [List.isEmpty_eq_false_iff]; rintro rfl; exact absurd hh2 (by simp)
                  go_wp2_with fail
                  go_ret
                  exact ⟨ret_bool2 (by simp [stOwn, hh9, hh8, hh7, hh6, he5, he4, he3, he2]), gout _⟩
              · have he3 : hh.isEmpty = false := by rw [List.isEmpty_eq_false_iff]; rintro rfl; exact absurd hh3 (by simp)
                go_wp2_with fail
                go_ret
                exact ⟨ret_bool2 (by simp [stOwn, hh9, hh8, hh7, hh6, he5, he4, he3]), gout _⟩
        · refine (call_of (g := gg) (refNone_v hh6 _ _ gg.W (Kd.C_below H.out.2.1 (gout gg)) L.out.2.1)).mono ?_
          rintro _ _ ⟨rfl, gg, rfl⟩
          go_wp2_with fail
          go_ret
          exact ⟨ret_bool2 (by simp [stOwn, hh9, hh8, hh7, hh6]), gout _⟩
      · refine (call_of (g := gg) (refNone_v hh7 _ _ gg.W (Kd.C_below H.out.1 (gout gg)) L.out.1)).mono ?_
        rintro _ _ ⟨rfl, gg, rfl⟩
        go_wp2_with fail
        go_ret
        exact ⟨ret_bool2 (by simp [stOwn, hh9, hh8, hh7]), gout _⟩
    · refine (call_of (g := gg) (refName_v hh8 gg.W)).mono ?_
      rintro _ _ ⟨rfl, gg, rfl⟩
      go_wp2_with fail
      go_ret
      exact ⟨ret_bool2 (by simp [stOwn, hh9, hh8]), gout _⟩
end Go.Proofs.YtfigjpehecibeaaGreat.L
end
section
namespace Go.Proofs.YtfigjpehecibeaaGreat.L
open Go.RowKit Go.Proofs.YtfigjpehecibeaaGreatW.PrintWords Go.Proofs.YtfigjpehecibeaaGreatW.PrintLast Go.Proofs.YtfigjpehecibeaaGreatW.PrintMore Go.Proofs.YtfigjpehecibeaaGreat.Gr
set_option linter.unusedVariables false
set_option linter.unusedSimpArgs false
theorem kinds (a : Int) : a < 1 ∨ (¬ a < 1 ∧ a > 5) ∨ a = 1 ∨ a = 2 ∨ a = 3 ∨ a = 4 ∨ a = 5 := by omega
theorem stmtForm_walk (x : S119) (ih : ∀ l, l = x.f6 ∨ l = x.f7 → BodyC 121 l) : StmtC 168 x := by
  intro A5 c5 A9 c9 A12 c12 A13 c13 w l5 g5 l9 g9 l12 g12 l13 g13
  have L := Aside0.mk (And.intro l5 (And.intro l9 (And.intro l12 l13)))
  have H := Aside0.mk (And.intro g5 (And.intro g9 (And.intro g12 g13)))
  have IH := Aside0.mk ih
  rw [stB_eq]
  obtain ⟨a, b, cc, d, e, f, g, hh⟩ := x
  simp only at *
  rcases kinds a with h | ⟨h, h'⟩ | rfl | rfl | rfl | rfl | rfl
  · exact stmtForm_klt a h b cc d e f g hh w L H IH
  · exact stmtForm_kgt a h h' b cc d e f g hh w L H IH
  · exact stmtForm_k1 b cc d e f g hh w L H IH
  · exact stmtForm_k2 b cc d e f g hh w L H IH
  · exact stmtForm_k3 b cc d e f g hh w L H IH
  · exact stmtForm_k4 b cc d e f g hh w L H IH
  · exact stmtForm_k5 b cc d e f g hh w L H IH
theorem refStmtForm_walk (x : S119) (ih : ∀ l, l = x.f6 ∨ l = x.f7 → BodyC 126 l) : StmtC 172 x := by
  intro A5 c5 A9 c9 A12 c12 A13 c13 w l5 g5 l9 g9 l12 g12 l13 g13
  have L := Aside0.mk (And.intro l5 (And.intro l9 (And.intro l12 l13)))
  have H := Aside0.mk (And.intro g5 (And.intro g9 (And.intro g12 g13)))
  have IH := Aside0.mk ih
  rw [stB_eq]
  obtain ⟨a, b, cc, d, e, f, g, hh⟩ := x
  simp only at *
  rcases kinds a with h | ⟨h, h'⟩ | rfl | rfl | rfl | rfl | rfl
  · exact refStmtForm_klt a h b cc d e f g hh w L H IH
  · exact refStmtForm_kgt a h h' b cc d e f g hh w L H IH
  · exact refStmtForm_k1 b cc d e f g hh w L H IH
  · exact refStmtForm_k2 b cc d e f g hh w L H IH
  · exact refStmtForm_k3 b cc d e f g hh w L H IH
  · exact refStmtForm_k4 b cc d e f g hh w L H IH
  · exact refStmtForm_k5 b cc d e f g hh w L H IH
theorem st_size {x y : S119} {l : List S119} {n : Nat} (hl : l = x.f6 ∨ l = x.f7) (hy : y ∈ l) (h : SizeOf.sizeOf x ≤ n + 1) : SizeOf.sizeOf y ≤ n := by
  have := List.sizeOf_lt_of_mem hy
  obtain ⟨a, b, cc, d, e, f, g, hh⟩ := x
  simp at h
  simp only at hl
  rcases hl with rfl | rfl <;> omega
theorem stmtForm_all : ∀ (n : Nat) (x : S119), SizeOf.sizeOf x ≤ n → StmtC 168 x := by
  intro n
  induction n with
  | zero => intro x h; obtain ⟨a, b, c, l⟩ := x; simp at h
  | succ n ih =>
    intro x h
    refine stmtForm_walk x fun l hl A c w' hc hlc => ?_
    rw [bdB_all]
    exact bodyForm_walk l A c w' hc hlc fun y hy => ih y (st_size hl hy h)
theorem refStmtForm_all : ∀ (n : Nat) (x : S119), SizeOf.sizeOf x ≤ n → StmtC 172 x := by
  intro n
  induction n with
  | zero => intro x h; obtain ⟨a, b, c, l⟩ := x; simp at h
  | succ n ih =>
    intro x h
    refine refStmtForm_walk x fun l hl A c w' hc hlc => ?_
    rw [bdB_all]
    exact stmtsForm_walk l A c w' hc hlc fun y hy => ih y (st_size hl hy h)
theorem bodyForm_calls (l : List S119) : BodyC 121 l := fun A c w' hc hl => by
  rw [bdB_all]; exact bodyForm_walk l A c w' hc hl fun y _ => stmtForm_all _ y (Nat.le_refl _)
theorem stmtsForm_calls (l : List S119) : BodyC 126 l := fun A c w' hc hl => by
  rw [bdB_all]; exact stmtsForm_walk l A c w' hc hl fun y _ => refStmtForm_all _ y (Nat.le_refl _)
end Go.Proofs.YtfigjpehecibeaaGreat.L
end
