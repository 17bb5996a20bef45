/- Texts joined by a program of mine: Lq Wf Wc Va. -/
import Derived.Deep.MidRow
import Derived.Test.YtfigjpehecibeaaGreatZd10
import Derived.Test.YtfigjpehecibeaaGreatZd12
section
namespace Go.Proofs.YtfigjpehecibeaaGreat.L
open Go.RowKit Go.Proofs.YtfigjpehecibeaaGreatW.PrintWords Go.Proofs.YtfigjpehecibeaaGreatW.PrintLast Go.Proofs.YtfigjpehecibeaaGreatW.PrintMore Go.Proofs.YtfigjpehecibeaaGreat.Gr
set_option linter.unusedVariables false
set_option linter.unusedSimpArgs false
attribute [local go_sem] G.cell
set_option maxHeartbeats 3000000 in
set_option maxRecDepth 100000 in
theorem refSize_walk (l : List S119) (hg : ∀ x ∈ l, 0 ≤ x.f4 ∧ 0 ≤ x.f5 ∧ x.f4 < 18446744073709551616 ∧ x.f5 < 18446744073709551616 ∧ weightE x.f2 ≤ 1099511627776 ∧ weightE x.f3 ≤ 1099511627776) (ih : ∀ x ∈ l, SizeC 147 65537 x.f6 ∧ SizeC 147 65537 x.f7) : SizeC 147 65537 l := by
  intro A c w hc hl
  have IH := Aside0.mk ih
  have HC := Aside0.mk hc
  have GD := Aside0.mk hg
  have hlm := hc.2.1
  clear ih hc hg
  go_enter Tryz.func147, Tryz.ntmps147
  go_wp2
  go_loopw [4, 3] (fun i n W => ∃ (k : Nat) (g : G w), i = .int .i64 k ∧ (∃ m : Nat, n = .int .i64 m ∧ m = min (sizeB (l.take k)) 65537) ∧ W = g.W ∧ k ≤ l.length) (fun i n _ => l.length - (intOf i).toNat)
  case atStart => exact ⟨0, ⟨w, Below.refl _ _⟩, rfl, ⟨0, rfl, by simp [sizeB]⟩, rfl, Nat.zero_le _⟩
  case round =>
    obtain ⟨k, g, rfl, ⟨m, rfl, hm⟩, rfl, hk⟩ := hrel
    by_cases hlt : k < l.length
    · obtain ⟨ad, A5, c5, A9, c9, A12, c12, A13, c13, e1, q0, q1, q2, q3, q4, q5, q6, q7, q8, q9, q10, q11, q12, q13, l5, g5, l9, g9, l12, g12, l13, g13⟩ := at_T119 HC.out (k : Int) (Int.natCast_nonneg _) (by omega)
      cases e1
      rw [Int.toNat_natCast] at q0 q1 q2 q3 q4 q5 q6 q7 q8 q9 q10 q11 q12 q13
      replace q0 := (g.below.cell (World.block_lt_of_cell? w _ q0)).trans q0
      replace q1 := (g.below.cell (World.block_lt_of_cell? w _ q1)).trans q1
      replace q2 := (g.below.cell (World.block_lt_of_cell? w _ q2)).trans q2
      replace q3 := (g.below.cell (World.block_lt_of_cell? w _ q3)).trans q3
      replace q4 := (g.below.cell (World.block_lt_of_cell? w _ q4)).trans q4
      replace q5 := (g.below.cell (World.block_lt_of_cell? w _ q5)).trans q5
      replace q6 := (g.below.cell (World.block_lt_of_cell? w _ q6)).trans q6
      replace q7 := (g.below.cell (World.block_lt_of_cell? w _ q7)).trans q7
      replace q8 := (g.below.cell (World.block_lt_of_cell? w _ q8)).trans q8
      replace q9 := (g.below.cell (World.block_lt_of_cell? w _ q9)).trans q9
      replace q10 := (g.below.cell (World.block_lt_of_cell? w _ q10)).trans q10
      replace q11 := (g.below.cell (World.block_lt_of_cell? w _ q11)).trans q11
      replace q12 := (g.below.cell (World.block_lt_of_cell? w _ q12)).trans q12
      replace q13 := (g.below.cell (World.block_lt_of_cell? w _ q13)).trans q13
      have hi1 : (k : Int) < (l.length : Int) := by omega
      have K := Aside0.mk (And.intro l5 (And.intro g5 (And.intro l9 (And.intro g9 (And.intro l12 (And.intro g12 (And.intro l13 g13)))))))
      clear l5 g5 l9 g9 l12 g12 l13 g13
      have MEM := rd77_mem' hlt
      have T := congrArg sizeB (take_rd119 hlt)
      rw [sizeB_add, sizeT_eq] at T
      have GD1 := Aside0.mk (GD.out _ MEM)
      have IH1 := Aside0.mk (IH.out _ MEM)
      clear MEM
      generalize rd_T119 l (k : Int) = x at *
      obtain ⟨m1, hm1⟩ : ∃ r, r = min (m + 1) 65537 := ⟨_, rfl⟩
      have M := Aside0.mk (And.intro hm (And.intro hm1 T))
      have hz1 := Aside0.mk (wrapN (n := m) (by omega))
      have hm1b := Aside0.mk (show m1 ≤ 65537 by omega)
      clear hm hm1 T
      have kk : x.f0 = 1 ∨ x.f0 = 2 ∨ x.f0 = 3 ∨ x.f0 = 4 ∨ (¬ x.f0 = 1 ∧ ¬ x.f0 = 2 ∧ ¬ x.f0 = 3 ∧ ¬ x.f0 = 4) := by omega
      rcases kk with h0 | h0 | h0 | h0 | ⟨h1, h2, h3, h4⟩
      · rw [h0] at q0
        have H0 := Aside0.mk h0
        clear h0
        go_wp2_with fail
        refine (call_at (cutI_calls _ (m + 1) m1 hz1.out M.out.2.1 _)).mono ?_
        rintro _ _ ⟨rfl, gg, rfl⟩
        go_wp2_with fail
        refine (call_of (g := gg) (weight_calls _ x.f3 (Nat.le_refl _) GD1.out.2.2.2.2.2 A9 c9 gg.W (Kd.C_below K.out.2.2.2.1 (G.deep (g := g) gg)) K.out.2.2.1)).mono ?_
        rintro _ _ ⟨rfl, gg, rfl⟩
        go_wp2_with fail
        obtain ⟨m2, hm2⟩ : ∃ r, r = min (m1 + weightE x.f3) 65537 := ⟨_, rfl⟩
        have HM2 := Aside0.mk hm2
        clear hm2
        refine (call_of (g := gg) (cutI_calls _ (m1 + weightE x.f3) m2 (wrap_add (by have := GD1.out; have := hm1b.out; omega)) HM2.out _)).mono ?_
        rintro _ _ ⟨rfl, gg, rfl⟩
        go_wp2_with fail
        refine ⟨⟨k + 1, mkG (G.deep (g := g) gg), by go_num, ⟨m2, rfl, ?_⟩, rfl, by omega⟩, by simp [intOf]; omega⟩
        obtain ⟨e1, e2, e3⟩ := M.out
        have e4 := HM2.out
        rw [e3, H0.out, if_pos rfl]
        omega
      · rw [h0] at q0
        have H0 := Aside0.mk h0
        clear h0
        go_wp2_with fail
        refine (call_at (cutI_calls _ (m + 1) m1 hz1.out M.out.2.1 _)).mono ?_
        rintro _ _ ⟨rfl, gg, rfl⟩
        obtain ⟨m2, hm2⟩ : ∃ r, r = min (m1 + weightE x.f2 + weightE x.f3) 65537 := ⟨_, rfl⟩
        have HM2 := Aside0.mk hm2
        clear hm2
        have B := Aside0.mk (And.intro hm1b.out GD1.out)
        have E1 := Aside0.mk (wrap_add (a := m1) (b := weightE x.f2) (by have := B.out; omega))
        have E2 := Aside0.mk (wrap_add (a := m1 + weightE x.f2) (b := weightE x.f3) (by have := B.out; omega))
        go_upto_region 11 with (fail)
        refine wp_region_of (g := gg) (by kernel_rfl) (by kernel_rfl) ?_
        repeat (go_big_quiet_step (fail))
        go_big_quiet_step (first | (go_at_call 230; exact call_of (weight_calls _ x.f2 (Nat.le_refl _) GD1.out.2.2.2.2.1 A5 c5 _ (Kd.C_below K.out.2.1 (G.deep (g := g) _)) K.out.1)))
        repeat (go_big_quiet_step (fail))
        go_big_quiet_step (first | (go_at_call 230; exact call_of (weight_calls _ x.f3 (Nat.le_refl _) GD1.out.2.2.2.2.2 A9 c9 _ (Kd.C_below K.out.2.2.2.1 (G.deep (g := g) _)) K.out.2.2.1)))
        repeat (go_big_quiet_step (fail))
        go_big_quiet_step (first | (go_at_call 229; exact call_of (cutI_calls _ (m1 + weightE x.f2 + weightE x.f3) m2 (by rw [E1.out, E2.out]) HM2.out _)))
        repeat (go_big_quiet_step (fail))
        refine wpQuiet_nil ?_
        rintro _ ⟨gg, rfl⟩
        go_wp2_with fail
        refine ⟨⟨k + 1, mkG (G.deep (g := g) gg), by go_num, ⟨m2, rfl, ?_⟩, rfl, by omega⟩, by simp [intOf]; omega⟩
        obtain ⟨e1, e2, e3⟩ := M.out
        have e4 := HM2.out
        rw [e3, H0.out, if_neg (by decide), if_pos rfl]
        omega
      · rw [h0] at q0
        have H0 := Aside0.mk h0
        clear h0
        go_wp2_with fail
        refine (call_at (cutI_calls _ (m + 1) m1 hz1.out M.out.2.1 _)).mono ?_
        rintro _ _ ⟨rfl, gg, rfl⟩
        obtain ⟨s1, hs1⟩ : ∃ r, r = min (sizeB x.f6) 65537 := ⟨_, rfl⟩
        obtain ⟨s2, hs2⟩ : ∃ r, r = min (sizeB x.f7) 65537 := ⟨_, rfl⟩
        obtain ⟨m2, hm2⟩ : ∃ r, r = min (m1 + weightE x.f3 + s1 + s2) 65537 := ⟨_, rfl⟩
        have HM2 := Aside0.mk (And.intro hm2 (And.intro hs1 hs2))
        have SB := Aside0.mk (show s1 ≤ 65537 ∧ s2 ≤ 65537 by omega)
        clear hm2 hs1 hs2
        have B := Aside0.mk (And.intro hm1b.out GD1.out)
        have E1 := Aside0.mk (wrap_add (a := m1) (b := weightE x.f3) (by have := B.out; omega))
        have E2 := Aside0.mk (wrap_add (a := m1 + weightE x.f3) (b := s1) (by have := B.out; have := SB.out; omega))
        have E3 := Aside0.mk (wrap_add (a := m1 + weightE x.f3 + s1) (b := s2) (by have := B.out; have := SB.out; omega))
        go_upto_region 13 with (fail)
        refine wp_region_of (g := gg) (by kernel_rfl) (by kernel_rfl) ?_
        repeat (go_big_quiet_step (fail))
        go_big_quiet_step (first | (go_at_call 230; exact call_of (weight_calls _ x.f3 (Nat.le_refl _) GD1.out.2.2.2.2.2 A9 c9 _ (Kd.C_below K.out.2.2.2.1 (G.deep (g := g) _)) K.out.2.2.1)))
        repeat (go_big_quiet_step (fail))
        go_big_quiet_step (first | (go_at_call 147; exact call_of (size_v IH1.out.1 HM2.out.2.1 A12 c12 _ (Kd.C_below K.out.2.2.2.2.2.1 (G.deep (g := g) _)) K.out.2.2.2.2.1)))
        repeat (go_big_quiet_step (fail))
        go_big_quiet_step (first | (go_at_call 147; exact call_of (size_v IH1.out.2 HM2.out.2.2 A13 c13 _ (Kd.C_below K.out.2.2.2.2.2.2.2 (G.deep (g := g) _)) K.out.2.2.2.2.2.2.1)))
        repeat (go_big_quiet_step (fail))
        go_big_quiet_step (first | (go_at_call 229; exact call_of (cutI_calls _ (m1 + weightE x.f3 + s1 + s2) m2 (by rw [E1.out, E2.out, E3.out]) HM2.out.1 _)))
        repeat (go_big_quiet_step (fail))
        refine wpQuiet_nil ?_
        rintro _ ⟨gg, rfl⟩
        go_wp2_with fail
        refine ⟨⟨k + 1, mkG (G.deep (g := g) gg), by go_num, ⟨m2, rfl, ?_⟩, rfl, by omega⟩, by simp [intOf]; omega⟩
        obtain ⟨e1, e2, e3⟩ := M.out
        obtain ⟨e4, e5, e6⟩ := HM2.out
        rw [e3, H0.out, if_neg (by decide), if_neg (by decide), if_pos rfl]
        omega
      · rw [h0] at q0
        have H0 := Aside0.mk h0
        clear h0
        go_wp2_with fail
        refine (call_at (cutI_calls _ (m + 1) m1 hz1.out M.out.2.1 _)).mono ?_
        rintro _ _ ⟨rfl, gg, rfl⟩
        rcases Int.lt_or_le x.f4 x.f5 with h5 | h5
        · obtain ⟨t0, ht0⟩ : ∃ t0 : Nat, (x.f5 - x.f4).toNat = t0 := ⟨_, rfl⟩
          have H5 := Aside0.mk (And.intro h5 ht0)
          have hw : IntKind.u64.wrap (x.f5 - x.f4) = (t0 : Int) := by
            have := GD1.out
            rw [← ht0, Int.toNat_of_nonneg (by omega)]
            simp only [IntKind.wrap, IntKind.bits, IntKind.signed, Bool.false_and, Bool.false_eq_true, if_false]
            omega
          obtain ⟨s1, hs1⟩ : ∃ r, r = min (sizeB x.f6) 65537 := ⟨_, rfl⟩
          have HS := Aside0.mk hs1
          have SB := Aside0.mk (show s1 ≤ 65537 by omega)
          clear hs1 ht0
          rcases Nat.lt_or_ge 65536 t0 with h7 | h7
          · have h8 : (65536 : Int) < (t0 : Int) := by omega
            have H7 := Aside0.mk h7
            clear h7
            obtain ⟨m2, hm2⟩ : ∃ r, r = min (m1 + 65537 * (1 + s1)) 65537 := ⟨_, rfl⟩
            have HM2 := Aside0.mk hm2
            clear hm2
            go_wp2_with fail
            refine (call_of (g := gg) (size_v IH1.out.1 HS.out A12 c12 gg.W (Kd.C_below K.out.2.2.2.2.2.1 (G.deep (g := g) gg)) K.out.2.2.2.2.1)).mono ?_
            rintro _ _ ⟨rfl, gg, rfl⟩
            go_wp2_with fail
            refine (call_of (g := gg) (cutI_calls _ (m1 + 65537 * (1 + s1)) m2 (for_sum m1 65537 s1 hm1b.out (by decide) SB.out) HM2.out _)).mono ?_
            rintro _ _ ⟨rfl, gg, rfl⟩
            go_wp2_with fail
            refine ⟨⟨k + 1, mkG (G.deep (g := g) gg), by go_num, ⟨m2, rfl, ?_⟩, rfl, by omega⟩, by simp [intOf]; omega⟩
            obtain ⟨e1, e2, e3⟩ := M.out
            rw [e3, H0.out, if_neg (by decide), if_neg (by decide), if_neg (by decide), if_pos rfl, H5.out.2, HM2.out, HS.out]
            have fc := for_cut (sizeB (l.take k) + 1) t0 (sizeB x.f6) 65537 (by decide)
            rw [Nat.min_eq_right (by have := H7.out; omega : 65537 ≤ t0)] at fc
            rw [show m1 = min (sizeB (l.take k) + 1) 65537 by omega, fc, Nat.add_assoc]
          · have h8 : ¬ (65536 : Int) < (t0 : Int) := by omega
            have H7 := Aside0.mk h7
            have hc : wrap64 (t0 : Int) = (t0 : Int) := wrap_id (by omega) (by omega)
            clear h7
            obtain ⟨m2, hm2⟩ : ∃ r, r = min (m1 + t0 * (1 + s1)) 65537 := ⟨_, rfl⟩
            have HM2 := Aside0.mk hm2
            clear hm2
            go_wp2_with fail
            refine (call_of (g := gg) (size_v IH1.out.1 HS.out A12 c12 gg.W (Kd.C_below K.out.2.2.2.2.2.1 (G.deep (g := g) gg)) K.out.2.2.2.2.1)).mono ?_
            rintro _ _ ⟨rfl, gg, rfl⟩
            go_wp2_with fail
            refine (call_of (g := gg) (cutI_calls _ (m1 + t0 * (1 + s1)) m2 (for_sum m1 t0 s1 hm1b.out (by have := H7.out; omega) SB.out) HM2.out _)).mono ?_
            rintro _ _ ⟨rfl, gg, rfl⟩
            go_wp2_with fail
            refine ⟨⟨k + 1, mkG (G.deep (g := g) gg), by go_num, ⟨m2, rfl, ?_⟩, rfl, by omega⟩, by simp [intOf]; omega⟩
            obtain ⟨e1, e2, e3⟩ := M.out
            rw [e3, H0.out, if_neg (by decide), if_neg (by decide), if_neg (by decide), if_pos rfl, H5.out.2, HM2.out, HS.out]
            have fc := for_cut (sizeB (l.take k) + 1) t0 (sizeB x.f6) 65537 (by decide)
            rw [Nat.min_eq_left (by have := H7.out; omega : t0 ≤ 65537)] at fc
            rw [show m1 = min (sizeB (l.take k) + 1) 65537 by omega, fc, Nat.add_assoc]
        · have h6 : ¬ x.f4 < x.f5 := by omega
          have H5 := Aside0.mk h5
          clear h5
          go_wp2_with fail
          refine ⟨⟨k + 1, mkG (G.deep (g := g) gg), by go_num, ⟨m1, rfl, ?_⟩, rfl, by omega⟩, by simp [intOf]; omega⟩
          obtain ⟨e1, e2, e3⟩ := M.out
          rw [e3, H0.out, if_neg (by decide), if_neg (by decide), if_neg (by decide), if_pos rfl, Int.toNat_of_nonpos (by have := H5.out; omega)]
          omega
      · have H1 := Aside0.mk (And.intro h1 (And.intro h2 (And.intro h3 h4)))
        have b1 : (x.f0 == 1) = false := by simpa using h1
        have b2 : (x.f0 == 2) = false := by simpa using h2
        have b3 : (x.f0 == 3) = false := by simpa using h3
        have b4 : (x.f0 == 4) = false := by simpa using h4
        go_wp2_with fail
        refine (call_at (cutI_calls _ (m + 1) m1 hz1.out M.out.2.1 _)).mono ?_
        rintro _ _ ⟨rfl, gg, rfl⟩
        go_wp2_with fail
        refine ⟨⟨k + 1, mkG (G.deep (g := g) gg), by go_num, ⟨m1, rfl, ?_⟩, rfl, by omega⟩, by simp [intOf]; omega⟩
        obtain ⟨e1, e2, e3⟩ := M.out
        obtain ⟨f1, f2, f3, f4⟩ := H1.out
        rw [e3, if_neg f1, if_neg f2, if_neg f3, if_neg f4]
        omega
    · go_wp2_with fail
      go_ret
      refine ⟨?_, g.below⟩
      rw [hm, show k = l.length by omega, List.take_length]
      rfl
end Go.Proofs.YtfigjpehecibeaaGreat.L
end
section
namespace Go.Proofs.YtfigjpehecibeaaGreat.L
open Go.RowKit Go.Proofs.YtfigjpehecibeaaGreatW.PrintWords Go.Proofs.YtfigjpehecibeaaGreatW.PrintLast Go.Proofs.YtfigjpehecibeaaGreatW.PrintMore Go.Proofs.YtfigjpehecibeaaGreat.Gr
set_option linter.unusedVariables false
set_option linter.unusedSimpArgs false
attribute [local go_sem] G.cell
theorem refSize_calls : ∀ (n : Nat) (l : List S119), SizeOf.sizeOf l ≤ n → Ot.goodTs l → Ot.bulkTs l ≤ 1048576 → SizeC 147 65537 l := by
  intro n
  induction n with
  | zero => intro l h; cases l <;> simp at h <;> omega
  | succ n ih =>
    intro l h hg hb
    refine refSize_walk l (fun x hx => ?_) fun x hx => ?_
    · have h1 := (Ot.goodTs_iff l).1 hg x hx
      have h2 := bulkTs_mem hx
      have h3 := bulkT_eq x
      have h4 := weight_bulk x.f2
      have h5 := weight_bulk x.f3
      obtain ⟨a, b, c, d, e, f, g, k⟩ := x
      rw [Ot.goodT] at h1
      have h6 := okU_b h1.2.2.2.2.1
      have h7 := okU_b h1.2.2.2.2.2.1
      exact ⟨h6.1, h7.1, h6.2, h7.2, by omega, by omega⟩
    · have h1 := List.sizeOf_lt_of_mem hx
      have h2 := (Ot.goodTs_iff l).1 hg x hx
      have h3 := bulkTs_mem hx
      have h4 := bulkT_eq x
      obtain ⟨a, b, c, d, e, f, g, k⟩ := x
      rw [Ot.goodT] at h2
      simp only [S119.mk.sizeOf_spec] at h1
      exact ⟨ih _ (by show SizeOf.sizeOf g ≤ n; omega) h2.2.2.2.2.2.2.2.2.1 (by show Ot.bulkTs g ≤ 1048576; simp only at h4; omega), ih _ (by show SizeOf.sizeOf k ≤ n; omega) h2.2.2.2.2.2.2.2.2.2 (by show Ot.bulkTs k ≤ 1048576; simp only at h4; omega)⟩
theorem Li.at {W0 w : World} {A : Option Addr} {n c : Nat} {xs : List Th} (h : Li 125 W0 w (.slice A n c) xs) {i : Nat} (hi : i < xs.length) : ∃ b A5 c5 A9 c9 A12 c12 A13 c13 A19 c19 A21 c21, A = some ⟨b, 0, none⟩ ∧
    w.rangeAt b (i * 22) [.int .i64 (toTV (thAt xs i)).is, .int .i64 (toTV (thAt xs i)).d, .int .i64 (toTV (thAt xs i)).s.f0, .string (toTV (thAt xs i)).s.f1, .int .i64 (toTV (thAt xs i)).s.f2.f0, .int .u64 (toTV (thAt xs i)).s.f2.f1, .string (toTV (thAt xs i)).s.f2.f2, .slice A5 (toTV (thAt xs i)).s.f2.f3.length c5, .int .i64 (toTV (thAt xs i)).s.f3.f0, .int .u64 (toTV (thAt xs i)).s.f3.f1, .string (toTV (thAt xs i)).s.f3.f2, .slice A9 (toTV (thAt xs i)).s.f3.f3.length c9, .int .u64 (toTV (thAt xs i)).s.f4, .int .u64 (toTV (thAt xs i)).s.f5, .slice A12 (toTV (thAt xs i)).s.f6.length c12, .slice A13 (toTV (thAt xs i)).s.f7.length c13, .int .i64 (toTV (thAt xs i)).e.f0, .int .u64 (toTV (thAt xs i)).e.f1, .string (toTV (thAt xs i)).e.f2, .slice A19 (toTV (thAt xs i)).e.f3.length c19, .int .i64 (toTV (thAt xs i)).deep, .slice A21 (toTV (thAt xs i)).loops.length c21] ∧ (toTV (thAt xs i)).loops.length ≤ c21 ∧ Kd.string.C w A21 (toTV (thAt xs i)).loops.length (toTV (thAt xs i)).loops := by
  obtain ⟨A', c', e', l', hC⟩ := Kd.R_reads h
  obtain ⟨_, inner, ho, _⟩ := h
  rcases ho.2 with ⟨_, hn⟩ | ⟨g, cap, cur, e, _⟩
  · simp at hn
    rw [hn] at hi
    exact absurd hi (Nat.not_lt_zero _)
  · injection e with e1 e2 e3
    injection e' with e4 e5 e6
    subst e1 e4
    obtain ⟨ad, cs, eA, el, hK, hc⟩ := Kd.C_get hC (toTV (.decl 0)) (i : Int) (Int.natCast_nonneg _) (by simp; omega)
    injection eA with eA
    subst eA
    have ex : (xs.map toTV).getD (i : Int).toNat (toTV (.decl 0)) = toTV (thAt xs i) := by
      unfold thAt
      rw [Int.toNat_natCast, List.getD_eq_getElem?_getD, List.getD_eq_getElem?_getD, List.getElem?_map, List.getElem?_eq_getElem hi]
      rfl
    rw [ex] at hK
    obtain ⟨A5, c5, A9, c9, A12, c12, A13, c13, A19, c19, A21, c21, ecs, _, _, _, _, _, _, _, _, _, _, l21, g21⟩ := kTh_open hK
    subst ecs
    refine ⟨g, A5, c5, A9, c9, A12, c12, A13, c13, A19, c19, A21, c21, rfl, fun j u hj => ?_, l21, g21⟩
    have := hc j u hj
    rw [Addr.add_mid, Int.toNat_natCast, Nat.zero_add] at this
    exact this
theorem Li.len {W0 w : World} {A : Option Addr} {n c : Nat} {xs : List Th} (h : Li 125 W0 w (.slice A n c) xs) : n = xs.length := by
  obtain ⟨A', c', e', l', hC⟩ := Kd.R_reads h
  injection e' with e4 e5 e6
  rw [e5]; simp
theorem rangeAt_in {w W : World} {b o : Nat} {cs : List Value} (h : Below w.heap.size w W) (hr : w.rangeAt b o cs) : W.rangeAt b o cs := fun j v hj => held_in h (hr j v hj)
structure PGood (nm : ByteArray) (wd ln : Int) (ds : List S70) (bd : List S119) : Prop where
  good : Ot.GoodP ⟨nm, wd, ln, ds, bd⟩
  bulk : Ot.bulkP ⟨nm, wd, ln, ds, bd⟩ ≤ 1048576
theorem okI_b {n : Int} (h : Ot.okI n) : -9223372036854775808 ≤ n ∧ n ≤ 9223372036854775807 := by
  unfold Ot.okI at h
  simp [Lit.wf, IntKind.min, IntKind.max, IntKind.bits, IntKind.signed] at h
  omega
theorem ds_bulk (ds : List S70) : ds.length ≤ (ds.map Ot.bulkD).sum := by
  induction ds with
  | nil => simp
  | cons d r ih => simp [Ot.bulkD]; omega
theorem PGood.sizes {nm : ByteArray} {wd ln : Int} {ds : List S70} {bd : List S119} (h : PGood nm wd ln ds bd) : ds.length ≤ 1048576 ∧ Ot.bulkTs bd ≤ 1048576 := by
  have h1 := h.bulk
  have h2 := ds_bulk ds
  simp only [Ot.bulkP] at h1
  omega
theorem errC_ne (c : Nat) : errC c ≠ 0 := by unfold errC; (repeat (first | split | decide))
theorem fault_ret {a b c : Int} {r : Ans} (h : r = ⟨a, b, c⟩) : Ending.returned (.tuple #[.int .i64 a, .int .i64 b, .int .i64 c]) = .returned (.tuple #[.int .i64 r.c, .int .i64 r.at', .int .i64 r.e]) := by rw [h]
set_option maxHeartbeats 4000000 in
set_option maxRecDepth 100000 in
theorem refFault_calls (nm : ByteArray) (wd ln : Int) (ds : List S70) (bd : List S119) (A3 : Option Addr) (c3 : Nat) (A4 : Option Addr) (c4 : Nat) (w : World) (hp : ProgAt w ds bd A3 c3 A4 c4) (hg : PGood nm wd ln ds bd) (r : Ans) (hr : r = faultS nm wd ln ds bd) :
    Calls Tryz.prog 109 #[(.agg #[.string nm, .int .i64 wd, .int .i64 ln, .slice A3 ds.length c3, .slice A4 bd.length c4])] w fun e w' => e = .returned (.tuple #[.int .i64 r.c, .int .i64 r.at', .int .i64 r.e]) ∧ Below w.heap.size w w' := by
  have gout : ∀ {o : Obj} (g : G (w.alloc o)), Below w.heap.size w g.W := fun g => ((Below.refl _ _).alloc (Nat.le_refl _) _).trans (g.below.mono (by simp))
  have PAt := Aside0.mk hp
  have HR := Aside0.mk hr
  have HG := Aside0.mk hg
  clear hp hr hg
  go_enter Tryz.func109, Tryz.ntmps109
  go_upto_region 1 with (fail)
  refine wp_grown0 ?_
  intro gg
  obtain ⟨hd, hhd⟩ : ∃ z, z = headS nm wd ln ds bd := ⟨_, rfl⟩
  have HHD := Aside0.mk hhd
  clear hhd
  go_wp2_with fail
  refine (call_of (g := gg) (head_calls nm wd ln ds bd A3 c3 A4 c4 gg.W (PAt.out.below (gout gg)) (by have := (okI_b HG.out.good.ln).2; simp only at this; omega) hd HHD.out)).mono ?_
  rintro _ _ ⟨rfl, gg, rfl⟩
  have HE := Aside0.mk (headS_e (nm := nm) (wd := wd) (ln := ln) (ds := ds) (bd := bd))
  by_cases h2 : hd.2 = 0
  rotate_left
  · have H2 := Aside0.mk h2
    have b2 := bn h2
    clear h2
    go_wp2_with fail
    go_ret3
    refine ⟨fault_ret ?_, gout _⟩
    rcases HE.out with ⟨h, _⟩ | ⟨_, h⟩
    · exact absurd (HHD.out ▸ h) H2.out
    · rw [HR.out, h, HHD.out]
  have H2 := Aside0.mk h2
  have b2 : (hd.2 != 0) = false := by simp [h2]
  clear h2
  obtain ⟨hF, hW, hP, hL, hS⟩ : formB nm wd ln ds bd = true ∧ widthB wd = true ∧ pow2B ln = true ∧ ds.length ≤ 256 ∧ faultS nm wd ln ds bd = faultD wd ds bd := by
    rcases HE.out with ⟨_, h⟩ | ⟨h, _⟩
    · exact h
    · exact absurd (HHD.out ▸ H2.out) h
  have FF := Aside0.mk (form_facts hF)
  have HS := Aside0.mk hS
  have HL := Aside0.mk hL
  clear hF hW hP hL hS
  obtain ⟨dd, hdd⟩ : ∃ z, z = declS wd ds := ⟨_, rfl⟩
  have HDD := Aside0.mk hdd
  clear hdd
  go_wp2_with fail
  refine (call_of (g := gg) (decls_calls nm wd ln ds bd A3 c3 A4 c4 gg.W (PAt.out.below (gout gg)) FF.out.1 (fun d hd => ⟨FF.out.2.2.1 d hd, by have := (okI_b (HG.out.good.ds d hd).2.2.1).2; omega, fun v hv => (okU_b ((HG.out.good.ds d hd).2.2.2.2 v hv)).1⟩) HL.out dd HDD.out)).mono ?_
  rintro _ _ ⟨rfl, gg, rfl⟩
  have DE := Aside0.mk (declS_e (wd := wd) (ds := ds) (bd := bd))
  by_cases h3 : dd.e = 0
  rotate_left
  · have H3 := Aside0.mk h3
    have b3 := bn h3
    clear h3
    go_wp2_with fail
    go_ret3
    refine ⟨fault_ret ?_, gout _⟩
    rcases DE.out with ⟨h, _⟩ | ⟨_, h⟩
    · exact absurd (HDD.out ▸ h) H3.out
    · rw [HR.out, HS.out, h, ← HDD.out]
  have H3 := Aside0.mk h3
  have b3 : (dd.e != 0) = false := by simp [h3]
  clear h3
  have HC := Aside0.mk (show r = faultC wd ds bd (things ds bd) 6 by
    rcases DE.out with ⟨_, h⟩ | ⟨h, _⟩
    · rw [HR.out, HS.out, h]
    · exact absurd (HDD.out ▸ H3.out) h)
  go_wp2_with fail
  have CL := List_calls nm wd ln ds bd A3 c3 A4 c4 gg.W HG.out.sizes.1 (Kd.C_below PAt.out.hb (gout gg)) PAt.out.hlb HG.out.sizes.2
  refine CL.mono ?_
  clear CL
  rintro _ w2 ⟨v1, rfl, hLi, hB⟩
  obtain ⟨AL, cL, rfl⟩ := Kd.R_slice hLi
  have hlen := Li.len hLi
  rw [hlen] at hLi ⊢
  have HLi := Aside0.mk hLi
  have HB := Aside0.mk ((gout gg).trans (hB.mono (gout gg).size))
  have hszw : w.heap.size < w2.heap.size := Nat.lt_of_lt_of_le (Nat.lt_of_lt_of_le (by simp [gw0]) gg.below.size) hB.size
  have bx : ∀ j, w2.cell? ⟨w.heap.size, j, none⟩ = (gw0 gg).cell? ⟨w.heap.size, j, none⟩ := fun j => (hB.cell (p := ⟨w.heap.size, j, none⟩) (Nat.lt_of_lt_of_le (by simp [gw0]) gg.below.size)).trans (gg.below.cell (p := ⟨w.heap.size, j, none⟩) (by simp [gw0]))
  have x0 : w2.cell? ⟨w.heap.size, 0, none⟩ = some (.string nm) := (bx 0).trans (by simp [gw0, go_sem])
  have x1 : w2.cell? ⟨w.heap.size, 1, none⟩ = some (.int .i64 wd) := (bx 1).trans (by simp [gw0, go_sem])
  have x2 : w2.cell? ⟨w.heap.size, 2, none⟩ = some (.int .i64 ln) := (bx 2).trans (by simp [gw0, go_sem])
  have x3 : w2.cell? ⟨w.heap.size, 3, none⟩ = some (.slice A3 ds.length c3) := (bx 3).trans (by simp [gw0, go_sem])
  have x4 : w2.cell? ⟨w.heap.size, 4, none⟩ = some (.slice A4 bd.length c4) := (bx 4).trans (by simp [gw0, go_sem])
  clear hLi hB hlen bx
  have hlb : (things ds bd).length ≤ 4194304 := by
    unfold things
    have h1 := stThs_len bd 1 []
    have h2 := HG.out.sizes
    simp
    omega
  go_wp2_with fail
  go_loopw [9] (fun i W => ∃ (c : Nat) (g : G w2), i = .int .i64 c ∧ W = g.W ∧ 10 ≤ c ∧ c ≤ 16 ∧ Aside0 (∀ c', 10 ≤ c' → c' < c → ∀ j, j < (things ds bd).length → badC wd ds c' (thAt (things ds bd) j) = false)) (fun i _ => 16 - (intOf i).toNat)
  case atStart => exact ⟨10, ⟨w2, Below.refl _ _⟩, rfl, rfl, Nat.le_refl _, by omega, ⟨fun c' h1 h2 => by omega⟩⟩
  case round =>
    obtain ⟨c, g, rfl, rfl, h10, h16, HK⟩ := hrel
    by_cases hc : c ≤ 15
    · have hc' : (c : Int) ≤ 15 := by omega
      go_wp2_with fail
      go_loopw [10] (fun i W => ∃ (k : Nat) (g : G w2), i = .int .i64 k ∧ W = g.W ∧ k ≤ (things ds bd).length ∧ Aside0 (∀ j, j < k → badC wd ds c (thAt (things ds bd) j) = false)) (fun i _ => (things ds bd).length - (intOf i).toNat)
      case atStart => exact ⟨0, g, rfl, rfl, Nat.zero_le _, ⟨fun j hj => absurd hj (Nat.not_lt_zero _)⟩⟩
      case round =>
        obtain ⟨k, g, rfl, rfl, hk, HK2⟩ := hrel
        by_cases hlt : k < (things ds bd).length
        · obtain ⟨bL, A5, c5, A9, c9, A12, c12, A13, c13, A19, c19, A21, c21, eA, hrg, l21, g21⟩ := Li.at HLi.out hlt
          subst eA
          have HRG := Aside0.mk hrg
          have KL := Aside0.mk (And.intro l21 g21)
          clear hrg l21 g21
          have hk1 : (k : Int) < ((things ds bd).length : Int) := by omega
          have hgt := Aside0.mk (good_things (ds := ds) (HG.out.good.bd) (thAt (things ds bd) k) (by unfold thAt; rw [List.getD_eq_getElem?_getD, List.getElem?_eq_getElem hlt]; exact List.getElem_mem _))
          obtain ⟨z, hz⟩ : ∃ z, z = if badC wd ds c (thAt (things ds bd) k) = true then errC c else 0 := ⟨_, rfl⟩
          have HZ := Aside0.mk hz
          clear hz
          rcases bcases (badC wd ds c (thAt (things ds bd) k)) with hy | hy
          · have HY := Aside0.mk hy
            have HZ2 := Aside0.mk (show z = errC c by rw [HZ.out, if_pos hy])
            have bz : (z != 0) = true := bn (by rw [HZ2.out]; exact errC_ne c)
            clear hy
            go_upto_region 14 with (fail)
            refine start_ (n := 8) (S := fun w' => ∃ g' : G w2, w' = g'.W) (ds := []) #[false, false, false, false, false, false, false, false] (by kernel_rfl) rfl rfl ⟨mkG (g.2.drew), rfl⟩ (fun hHeld => ?_)
            obtain ⟨gd, hgd⟩ := hHeld
            rw [hgd]
            clear hgd
            refine pure_ (i := 1) (N := some 45) (v := ?_) (a' := ?_) #[false, true, false, false, false, false, false, false] rfl rfl (by kernel_rfl) (fun _ _ _ h => h) (Or.inl ⟨by rfl, ?_⟩) ?_ ?_
            rotate_left
            · intro w'
              go_simp
              with_reducible rfl
            rotate_left
            · simp only [Act.put, List.setIfInBounds_toArray, List.set_cons_zero, List.set_cons_succ, i64_w, i32_w]
              rfl
            refine pure_ (i := 2) (N := some 46) (v := ?_) (a' := ?_) #[false, true, true, false, false, false, false, false] rfl rfl (by kernel_rfl) (fun _ _ _ h => h) (Or.inl ⟨by rfl, ?_⟩) ?_ ?_
            rotate_left
            · intro w'
              go_simp
              with_reducible rfl
            rotate_left
            · simp only [Act.put, List.setIfInBounds_toArray, List.set_cons_zero, List.set_cons_succ, i64_w, i32_w]
              rfl
            refine pure_ (i := 3) (N := some 47) (v := ?_) (a' := ?_) #[false, true, true, true, false, false, false, false] rfl rfl (by kernel_rfl) (fun _ _ _ h => h) (Or.inl ⟨by rfl, ?_⟩) ?_ ?_
            rotate_left
            · intro w'
              go_simp
              with_reducible rfl
            rotate_left
            · simp only [Act.put, List.setIfInBounds_toArray, List.set_cons_zero, List.set_cons_succ, i64_w, i32_w]
              rfl
            refine pure_ (i := 5) (N := some 49) (v := ?_) (a' := ?_) #[false, true, true, true, false, true, false, false] rfl rfl (by kernel_rfl) (fun _ _ _ h => h) (Or.inl ⟨by rfl, ?_⟩) ?_ ?_
            rotate_left
            · intro w'
              go_simp
              with_reducible rfl
            rotate_left
            · simp only [Act.put, List.setIfInBounds_toArray, List.set_cons_zero, List.set_cons_succ, i64_w, i32_w]
              rfl
            refine take_ (i := 0) (N := some 44) (v := ?_) (a' := ?_) #[true, true, true, true, false, true, false, false] rfl rfl (by kernel_rfl) (fun _ _ _ h => h) (Or.inl ⟨by rfl, ?_⟩) ⟨gd, rfl⟩ ?_ ?_
            rotate_left
            · rintro w' ⟨g', rfl⟩
              go_simp
              with_reducible rfl
            rotate_left
            · simp only [Act.put, List.setIfInBounds_toArray, List.set_cons_zero, List.set_cons_succ, i64_w, i32_w]
              rfl
            refine take_ (i := 4) (N := some 48) (v := .agg #[.int .i64 (toTV (thAt (things ds bd) k)).is, .int .i64 (toTV (thAt (things ds bd) k)).d, .int .i64 (toTV (thAt (things ds bd) k)).s.f0, .string (toTV (thAt (things ds bd) k)).s.f1, .int .i64 (toTV (thAt (things ds bd) k)).s.f2.f0, .int .u64 (toTV (thAt (things ds bd) k)).s.f2.f1, .string (toTV (thAt (things ds bd) k)).s.f2.f2, .slice A5 (toTV (thAt (things ds bd) k)).s.f2.f3.length c5, .int .i64 (toTV (thAt (things ds bd) k)).s.f3.f0, .int .u64 (toTV (thAt (things ds bd) k)).s.f3.f1, .string (toTV (thAt (things ds bd) k)).s.f3.f2, .slice A9 (toTV (thAt (things ds bd) k)).s.f3.f3.length c9, .int .u64 (toTV (thAt (things ds bd) k)).s.f4, .int .u64 (toTV (thAt (things ds bd) k)).s.f5, .slice A12 (toTV (thAt (things ds bd) k)).s.f6.length c12, .slice A13 (toTV (thAt (things ds bd) k)).s.f7.length c13, .int .i64 (toTV (thAt (things ds bd) k)).e.f0, .int .u64 (toTV (thAt (things ds bd) k)).e.f1, .string (toTV (thAt (things ds bd) k)).e.f2, .slice A19 (toTV (thAt (things ds bd) k)).e.f3.length c19, .int .i64 (toTV (thAt (things ds bd) k)).deep, .slice A21 (toTV (thAt (things ds bd) k)).loops.length c21]) (a' := ?_) #[true, true, true, true, true, true, false, false] rfl rfl (by kernel_rfl) (fun _ _ _ h => h) (yieldsIf_load_mid (by rfl) 125 (.tmp 47) rfl bL (k * 22) ?_ [.int .i64 (toTV (thAt (things ds bd) k)).is, .int .i64 (toTV (thAt (things ds bd) k)).d, .int .i64 (toTV (thAt (things ds bd) k)).s.f0, .string (toTV (thAt (things ds bd) k)).s.f1, .int .i64 (toTV (thAt (things ds bd) k)).s.f2.f0, .int .u64 (toTV (thAt (things ds bd) k)).s.f2.f1, .string (toTV (thAt (things ds bd) k)).s.f2.f2, .slice A5 (toTV (thAt (things ds bd) k)).s.f2.f3.length c5, .int .i64 (toTV (thAt (things ds bd) k)).s.f3.f0, .int .u64 (toTV (thAt (things ds bd) k)).s.f3.f1, .string (toTV (thAt (things ds bd) k)).s.f3.f2, .slice A9 (toTV (thAt (things ds bd) k)).s.f3.f3.length c9, .int .u64 (toTV (thAt (things ds bd) k)).s.f4, .int .u64 (toTV (thAt (things ds bd) k)).s.f5, .slice A12 (toTV (thAt (things ds bd) k)).s.f6.length c12, .slice A13 (toTV (thAt (things ds bd) k)).s.f7.length c13, .int .i64 (toTV (thAt (things ds bd) k)).e.f0, .int .u64 (toTV (thAt (things ds bd) k)).e.f1, .string (toTV (thAt (things ds bd) k)).e.f2, .slice A19 (toTV (thAt (things ds bd) k)).e.f3.length c19, .int .i64 (toTV (thAt (things ds bd) k)).deep, .slice A21 (toTV (thAt (things ds bd) k)).loops.length c21] _ (fun w' hw' => by obtain ⟨g', rfl⟩ := hw'; exact rangeAt_in g'.below HRG.out) Tryz.underlying125 rfl (by kernel_rfl)) ⟨gd, rfl⟩ ?_ ?_
            · first | rfl | (simp [Act.eval, Addr.add_mid]; done)
            rotate_left
            · simp only [Act.put, List.setIfInBounds_toArray, List.set_cons_zero, List.set_cons_succ, i64_w, i32_w]
              rfl
            refine one_ (i := 6) (N := some 50) #[true, true, true, true, true, true, true, false] rfl rfl (by kernel_rfl) (by simp) (fun K hK => ?_)
            refine goes_ Tryz.func146 (by kernel_rfl) rfl #[.agg #[.string nm, .int .i64 wd, .int .i64 ln, .slice A3 ds.length c3, .slice A4 bd.length c4], (.agg #[.int .i64 (toTV (thAt (things ds bd) k)).is, .int .i64 (toTV (thAt (things ds bd) k)).d, .int .i64 (toTV (thAt (things ds bd) k)).s.f0, .string (toTV (thAt (things ds bd) k)).s.f1, .int .i64 (toTV (thAt (things ds bd) k)).s.f2.f0, .int .u64 (toTV (thAt (things ds bd) k)).s.f2.f1, .string (toTV (thAt (things ds bd) k)).s.f2.f2, .slice A5 (toTV (thAt (things ds bd) k)).s.f2.f3.length c5, .int .i64 (toTV (thAt (things ds bd) k)).s.f3.f0, .int .u64 (toTV (thAt (things ds bd) k)).s.f3.f1, .string (toTV (thAt (things ds bd) k)).s.f3.f2, .slice A9 (toTV (thAt (things ds bd) k)).s.f3.f3.length c9, .int .u64 (toTV (thAt (things ds bd) k)).s.f4, .int .u64 (toTV (thAt (things ds bd) k)).s.f5, .slice A12 (toTV (thAt (things ds bd) k)).s.f6.length c12, .slice A13 (toTV (thAt (things ds bd) k)).s.f7.length c13, .int .i64 (toTV (thAt (things ds bd) k)).e.f0, .int .u64 (toTV (thAt (things ds bd) k)).e.f1, .string (toTV (thAt (things ds bd) k)).e.f2, .slice A19 (toTV (thAt (things ds bd) k)).e.f3.length c19, .int .i64 (toTV (thAt (things ds bd) k)).deep, .slice A21 (toTV (thAt (things ds bd) k)).loops.length c21]), .int .i64 (c : Int)] (by rfl) rfl rfl (by (try simp only [List.map_toArray, List.map_cons, List.map_nil]); first | done | rfl) ?_
            refine (viol_v nm wd ln ds bd A3 c3 A4 c4 (thAt (things ds bd) k) gd.W (PAt.out.below (HB.out.trans (gd.below.mono HB.out.size))) (Kd.C_below KL.out.2 gd.below) KL.out.1 FF.out.1 hgt.out c h10 hc (fun h => HK.out 11 (by omega) (by omega) k hlt) z HZ.out).mono ?_
            rintro _ w9 ⟨rfl, hb⟩
            refine ⟨_, rfl, ?_⟩
            obtain ⟨gd, rfl⟩ : ∃ g' : G _, w9 = g'.W := ⟨mkG (gd.below.trans (hb.mono gd.below.size)), rfl⟩
            clear hb
            refine hK.out _ _ ⟨gd, rfl⟩ (fun _ => ?_)
            clear hK K
            refine norm_ (a' := ?_) ?_ ?_
            rotate_left
            · show Act.put _ (some 50) _ = _
              simp only [Act.put, List.setIfInBounds_toArray, List.set_cons_zero, List.set_cons_succ, i64_w, i32_w]
              rfl
            refine pure_ (i := 7) (N := some 11) (v := ?_) (a' := ?_) #[true, true, true, true, true, true, true, true] rfl rfl (by kernel_rfl) (fun _ _ _ h => h) (Or.inl ⟨by rfl, ?_⟩) ?_ ?_
            rotate_left
            · intro w'
              go_simp
              with_reducible rfl
            rotate_left
            · simp only [Act.put, List.setIfInBounds_toArray, List.set_cons_zero, List.set_cons_succ, i64_w, i32_w]
              rfl
            refine done_ (by kernel_rfl) ?_
            go_wp2_with fail
            go_ret3
            exact ⟨fault_ret ((HC.out.trans (faultC_at h10 hc (fun c' h1 h2 j hj => HK.out c' h1 h2 j hj) hlt HY.out HK2.out)).trans (by rw [HZ2.out])), HB.out.trans (gd.below.mono HB.out.size)⟩
          · have HY := Aside0.mk hy
            have bz : (z != 0) = false := by rw [HZ.out, if_neg (by simp [hy])]; rfl
            clear hy
            go_upto_region 14 with (fail)
            refine start_ (n := 8) (S := fun w' => ∃ g' : G w2, w' = g'.W) (ds := []) #[false, false, false, false, false, false, false, false] (by kernel_rfl) rfl rfl ⟨mkG (g.2.drew), rfl⟩ (fun hHeld => ?_)
            obtain ⟨gd, hgd⟩ := hHeld
            rw [hgd]
            clear hgd
            refine pure_ (i := 1) (N := some 45) (v := ?_) (a' := ?_) #[false, true, false, false, false, false, false, false] rfl rfl (by kernel_rfl) (fun _ _ _ h => h) (Or.inl ⟨by rfl, ?_⟩) ?_ ?_
            rotate_left
            · intro w'
              go_simp
              with_reducible rfl
            rotate_left
            · simp only [Act.put, List.setIfInBounds_toArray, List.set_cons_zero, List.set_cons_succ, i64_w, i32_w]
              rfl
            refine pure_ (i := 2) (N := some 46) (v := ?_) (a' := ?_) #[false, true, true, false, false, false, false, false] rfl rfl (by kernel_rfl) (fun _ _ _ h => h) (Or.inl ⟨by rfl, ?_⟩) ?_ ?_
            rotate_left
            · intro w'
              go_simp
              with_reducible rfl
            rotate_left
            · simp only [Act.put, List.setIfInBounds_toArray, List.set_cons_zero, List.set_cons_succ, i64_w, i32_w]
              rfl
            refine pure_ (i := 3) (N := some 47) (v := ?_) (a' := ?_) #[false, true, true, true, false, false, false, false] rfl rfl (by kernel_rfl) (fun _ _ _ h => h) (Or.inl ⟨by rfl, ?_⟩) ?_ ?_
            rotate_left
            · intro w'
              go_simp
              with_reducible rfl
            rotate_left
            · simp only [Act.put, List.setIfInBounds_toArray, List.set_cons_zero, List.set_cons_succ, i64_w, i32_w]
              rfl
            refine pure_ (i := 5) (N := some 49) (v := ?_) (a' := ?_) #[false, true, true, true, false, true, false, false] rfl rfl (by kernel_rfl) (fun _ _ _ h => h) (Or.inl ⟨by rfl, ?_⟩) ?_ ?_
            rotate_left
            · intro w'
              go_simp
              with_reducible rfl
            rotate_left
            · simp only [Act.put, List.setIfInBounds_toArray, List.set_cons_zero, List.set_cons_succ, i64_w, i32_w]
              rfl
            refine take_ (i := 0) (N := some 44) (v := ?_) (a' := ?_) #[true, true, true, true, false, true, false, false] rfl rfl (by kernel_rfl) (fun _ _ _ h => h) (Or.inl ⟨by rfl, ?_⟩) ⟨gd, rfl⟩ ?_ ?_
            rotate_left
            · rintro w' ⟨g', rfl⟩
              go_simp
              with_reducible rfl
            rotate_left
            · simp only [Act.put, List.setIfInBounds_toArray, List.set_cons_zero, List.set_cons_succ, i64_w, i32_w]
              rfl
            refine take_ (i := 4) (N := some 48) (v := .agg #[.int .i64 (toTV (thAt (things ds bd) k)).is, .int .i64 (toTV (thAt (things ds bd) k)).d, .int .i64 (toTV (thAt (things ds bd) k)).s.f0, .string (toTV (thAt (things ds bd) k)).s.f1, .int .i64 (toTV (thAt (things ds bd) k)).s.f2.f0, .int .u64 (toTV (thAt (things ds bd) k)).s.f2.f1, .string (toTV (thAt (things ds bd) k)).s.f2.f2, .slice A5 (toTV (thAt (things ds bd) k)).s.f2.f3.length c5, .int .i64 (toTV (thAt (things ds bd) k)).s.f3.f0, .int .u64 (toTV (thAt (things ds bd) k)).s.f3.f1, .string (toTV (thAt (things ds bd) k)).s.f3.f2, .slice A9 (toTV (thAt (things ds bd) k)).s.f3.f3.length c9, .int .u64 (toTV (thAt (things ds bd) k)).s.f4, .int .u64 (toTV (thAt (things ds bd) k)).s.f5, .slice A12 (toTV (thAt (things ds bd) k)).s.f6.length c12, .slice A13 (toTV (thAt (things ds bd) k)).s.f7.length c13, .int .i64 (toTV (thAt (things ds bd) k)).e.f0, .int .u64 (toTV (thAt (things ds bd) k)).e.f1, .string (toTV (thAt (things ds bd) k)).e.f2, .slice A19 (toTV (thAt (things ds bd) k)).e.f3.length c19, .int .i64 (toTV (thAt (things ds bd) k)).deep, .slice A21 (toTV (thAt (things ds bd) k)).loops.length c21]) (a' := ?_) #[true, true, true, true, true, true, false, false] rfl rfl (by kernel_rfl) (fun _ _ _ h => h) (yieldsIf_load_mid (by rfl) 125 (.tmp 47) rfl bL (k * 22) ?_ [.int .i64 (toTV (thAt (things ds bd) k)).is, .int .i64 (toTV (thAt (things ds bd) k)).d, .int .i64 (toTV (thAt (things ds bd) k)).s.f0, .string (toTV (thAt (things ds bd) k)).s.f1, .int .i64 (toTV (thAt (things ds bd) k)).s.f2.f0, .int .u64 (toTV (thAt (things ds bd) k)).s.f2.f1, .string (toTV (thAt (things ds bd) k)).s.f2.f2, .slice A5 (toTV (thAt (things ds bd) k)).s.f2.f3.length c5, .int .i64 (toTV (thAt (things ds bd) k)).s.f3.f0, .int .u64 (toTV (thAt (things ds bd) k)).s.f3.f1, .string (toTV (thAt (things ds bd) k)).s.f3.f2, .slice A9 (toTV (thAt (things ds bd) k)).s.f3.f3.length c9, .int .u64 (toTV (thAt (things ds bd) k)).s.f4, .int .u64 (toTV (thAt (things ds bd) k)).s.f5, .slice A12 (toTV (thAt (things ds bd) k)).s.f6.length c12, .slice A13 (toTV (thAt (things ds bd) k)).s.f7.length c13, .int .i64 (toTV (thAt (things ds bd) k)).e.f0, .int .u64 (toTV (thAt (things ds bd) k)).e.f1, .string (toTV (thAt (things ds bd) k)).e.f2, .slice A19 (toTV (thAt (things ds bd) k)).e.f3.length c19, .int .i64 (toTV (thAt (things ds bd) k)).deep, .slice A21 (toTV (thAt (things ds bd) k)).loops.length c21] _ (fun w' hw' => by obtain ⟨g', rfl⟩ := hw'; exact rangeAt_in g'.below HRG.out) Tryz.underlying125 rfl (by kernel_rfl)) ⟨gd, rfl⟩ ?_ ?_
            · first | rfl | (simp [Act.eval, Addr.add_mid]; done)
            rotate_left
            · simp only [Act.put, List.setIfInBounds_toArray, List.set_cons_zero, List.set_cons_succ, i64_w, i32_w]
              rfl
            refine one_ (i := 6) (N := some 50) #[true, true, true, true, true, true, true, false] rfl rfl (by kernel_rfl) (by simp) (fun K hK => ?_)
            refine goes_ Tryz.func146 (by kernel_rfl) rfl #[.agg #[.string nm, .int .i64 wd, .int .i64 ln, .slice A3 ds.length c3, .slice A4 bd.length c4], (.agg #[.int .i64 (toTV (thAt (things ds bd) k)).is, .int .i64 (toTV (thAt (things ds bd) k)).d, .int .i64 (toTV (thAt (things ds bd) k)).s.f0, .string (toTV (thAt (things ds bd) k)).s.f1, .int .i64 (toTV (thAt (things ds bd) k)).s.f2.f0, .int .u64 (toTV (thAt (things ds bd) k)).s.f2.f1, .string (toTV (thAt (things ds bd) k)).s.f2.f2, .slice A5 (toTV (thAt (things ds bd) k)).s.f2.f3.length c5, .int .i64 (toTV (thAt (things ds bd) k)).s.f3.f0, .int .u64 (toTV (thAt (things ds bd) k)).s.f3.f1, .string (toTV (thAt (things ds bd) k)).s.f3.f2, .slice A9 (toTV (thAt (things ds bd) k)).s.f3.f3.length c9, .int .u64 (toTV (thAt (things ds bd) k)).s.f4, .int .u64 (toTV (thAt (things ds bd) k)).s.f5, .slice A12 (toTV (thAt (things ds bd) k)).s.f6.length c12, .slice A13 (toTV (thAt (things ds bd) k)).s.f7.length c13, .int .i64 (toTV (thAt (things ds bd) k)).e.f0, .int .u64 (toTV (thAt (things ds bd) k)).e.f1, .string (toTV (thAt (things ds bd) k)).e.f2, .slice A19 (toTV (thAt (things ds bd) k)).e.f3.length c19, .int .i64 (toTV (thAt (things ds bd) k)).deep, .slice A21 (toTV (thAt (things ds bd) k)).loops.length c21]), .int .i64 (c : Int)] (by rfl) rfl rfl (by (try simp only [List.map_toArray, List.map_cons, List.map_nil]); first | done | rfl) ?_
            refine (viol_v nm wd ln ds bd A3 c3 A4 c4 (thAt (things ds bd) k) gd.W (PAt.out.below (HB.out.trans (gd.below.mono HB.out.size))) (Kd.C_below KL.out.2 gd.below) KL.out.1 FF.out.1 hgt.out c h10 hc (fun h => HK.out 11 (by omega) (by omega) k hlt) z HZ.out).mono ?_
            rintro _ w9 ⟨rfl, hb⟩
            refine ⟨_, rfl, ?_⟩
            obtain ⟨gd, rfl⟩ : ∃ g' : G _, w9 = g'.W := ⟨mkG (gd.below.trans (hb.mono gd.below.size)), rfl⟩
            clear hb
            refine hK.out _ _ ⟨gd, rfl⟩ (fun _ => ?_)
            clear hK K
            refine norm_ (a' := ?_) ?_ ?_
            rotate_left
            · show Act.put _ (some 50) _ = _
              simp only [Act.put, List.setIfInBounds_toArray, List.set_cons_zero, List.set_cons_succ, i64_w, i32_w]
              rfl
            refine pure_ (i := 7) (N := some 11) (v := ?_) (a' := ?_) #[true, true, true, true, true, true, true, true] rfl rfl (by kernel_rfl) (fun _ _ _ h => h) (Or.inl ⟨by rfl, ?_⟩) ?_ ?_
            rotate_left
            · intro w'
              go_simp
              with_reducible rfl
            rotate_left
            · simp only [Act.put, List.setIfInBounds_toArray, List.set_cons_zero, List.set_cons_succ, i64_w, i32_w]
              rfl
            refine done_ (by kernel_rfl) ?_
            go_wp2_with fail
            exact ⟨⟨k + 1, gd, by go_num, rfl, by omega, ⟨fun j hj => (Decidable.em (j = k)).elim (fun h => h ▸ HY.out) (fun h => HK2.out j (by omega))⟩⟩, by simp [intOf]; omega⟩
        · have hk1 : ¬ (k : Int) < ((things ds bd).length : Int) := by omega
          go_wp2_with fail
          exact ⟨⟨c + 1, g, by go_num, rfl, by omega, by omega, ⟨fun c' h1 h2 j hj => (Decidable.em (c' = c)).elim (fun h => by rw [h]; exact HK2.out j (by omega)) (fun h => HK.out c' h1 (by omega) j hj)⟩⟩, by simp [intOf]; omega⟩
    · have hc' : ¬ (c : Int) ≤ 15 := by omega
      have HE2 := Aside0.mk (HC.out.trans (faultC_none (bd := bd) fun c' h1 h2 j hj => HK.out c' h1 (by omega) j hj))
      obtain ⟨m, hm⟩ : ∃ m, m = min (sizeB bd) 65537 := ⟨_, rfl⟩
      have HM := Aside0.mk hm
      clear hm
      go_wp2_with fail
      refine (call_of (g := g) (size_v (refSize_calls _ bd (Nat.le_refl _) ((Ot.goodTs_iff bd).2 HG.out.good.bd) HG.out.sizes.2) HM.out A4 c4 g.W (Kd.C_below PAt.out.hb (HB.out.trans (g.below.mono HB.out.size))) PAt.out.hlb)).mono ?_
      rintro _ _ ⟨rfl, g, rfl⟩
      by_cases h7 : 65536 < sizeB bd
      · have H7 := Aside0.mk h7
        have hm7 : (65536 : Int) < (m : Int) := by have := HM.out; omega
        clear h7
        go_wp2_with fail
        go_ret3
        exact ⟨fault_ret (by rw [HE2.out, if_pos H7.out]), HB.out.trans (g.below.mono HB.out.size)⟩
      · have H7 := Aside0.mk h7
        have hm7 : ¬ (65536 : Int) < (m : Int) := by have := HM.out; omega
        clear h7
        go_wp2_with fail
        go_ret3
        exact ⟨fault_ret (by rw [HE2.out, if_neg (by have := H7.out; omega)]), HB.out.trans (g.below.mono HB.out.size)⟩
end Go.Proofs.YtfigjpehecibeaaGreat.L
end
section
namespace Go.Proofs.YtfigjpehecibeaaGreat.L
open Go.RowKit Go.Proofs.YtfigjpehecibeaaGreatW.PrintWords Go.Proofs.YtfigjpehecibeaaGreatW.PrintLast Go.Proofs.YtfigjpehecibeaaGreatW.PrintMore Go.Proofs.YtfigjpehecibeaaGreat.Gr
set_option linter.unusedVariables false
set_option linter.unusedSimpArgs false
attribute [local go_sem] G.cell
set_option maxHeartbeats 1000000 in
set_option maxRecDepth 100000 in
theorem refCheck_calls (nm : ByteArray) (wd ln : Int) (ds : List S70) (bd : List S119) (A3 : Option Addr) (c3 : Nat) (A4 : Option Addr) (c4 : Nat) (w : World) (hp : ProgAt w ds bd A3 c3 A4 c4) (hg : PGood nm wd ln ds bd) (r : Ans) (hr : r = faultS nm wd ln ds bd) :
    Calls Tryz.prog 50 #[.agg #[.string nm, .int .i64 wd, .int .i64 ln, .slice A3 ds.length c3, .slice A4 bd.length c4]] w fun e w' => e = .returned (.int .i64 r.e) ∧ Below w.heap.size w w' := by
  have gout : ∀ {o : Obj} (g : G (w.alloc o)), Below w.heap.size w g.W := fun g => ((Below.refl _ _).alloc (Nat.le_refl _) _).trans (g.below.mono (by simp))
  have PAt := Aside0.mk hp
  have HR := Aside0.mk hr
  have HG := Aside0.mk hg
  clear hp hr hg
  go_enter Tryz.func50, Tryz.ntmps50
  go_upto_region 1 with (fail)
  refine wp_grown0 ?_
  intro gg
  go_wp2_with fail
  refine (call_of (g := gg) (refFault_calls nm wd ln ds bd A3 c3 A4 c4 gg.W (PAt.out.below (gout gg)) HG.out r HR.out)).mono ?_
  rintro _ _ ⟨rfl, gg, rfl⟩
  go_wp2_with fail
  go_ret
  exact ⟨rfl, gout _⟩
end Go.Proofs.YtfigjpehecibeaaGreat.L
end
section
namespace Go.Proofs.YtfigjpehecibeaaGreat.L
open Go.RowKit Go.Proofs.YtfigjpehecibeaaGreatW.PrintWords Go.Proofs.YtfigjpehecibeaaGreatW.PrintLast Go.Proofs.YtfigjpehecibeaaGreatW.PrintMore Go.Proofs.YtfigjpehecibeaaGreat.Gr
set_option linter.unusedVariables false
set_option linter.unusedSimpArgs false
attribute [local go_sem] G.cell
def ScopeR (W : World) : Value → List ByteArray → Prop
  | v, [] => v = .pointer none
  | v, nm :: r => ∃ b nx, v = .pointer (some ⟨b, 0, none⟩) ∧ W.heap[b]? = some (.cells #[.string nm, nx] 121 (0, 0)) ∧ ScopeR W nx r
structure Gw (Wb W W' : World) (b : Nat) : Prop where
  below : Below Wb.heap.size Wb W'
  grown : W.grownBy W' (some b)
theorem Gw.trans {Wb W W1 W2 : World} {b : Nat} (h : Gw Wb W W1 b) (k : Gw Wb W1 W2 b) : Gw Wb W W2 b :=
  ⟨k.below, ⟨k.grown.os.trans h.grown.os, k.grown.tape.trans h.grown.tape, k.grown.output.trans h.grown.output, Nat.le_trans h.grown.size k.grown.size, fun i hi hn => (k.grown.block i (Nat.lt_of_lt_of_le hi h.grown.size) hn).trans (h.grown.block i hi hn)⟩⟩
theorem Gw.of_below {Wb W W1 : World} (b : Nat) (hb : Below Wb.heap.size Wb W) (h : Below W.heap.size W W1) : Gw Wb W W1 b :=
  ⟨hb.trans (h.mono hb.size), ⟨h.os, h.tape, h.output, h.size, fun k hk _ => h.block k hk⟩⟩
theorem ScopeR.step {W W' : World} {b n : Nat} {sv : Value} (hw : W.heap[b]? = some (.cells #[.int .i64 n, sv] 183 (0, 0))) (hg : W.grownBy W' (some b)) : ∀ {lo : List ByteArray} {v : Value}, ScopeR W v lo → ScopeR W' v lo
  | [], v, h => h
  | nm :: r, v, ⟨c, nx, hv, hc, hr⟩ => ⟨c, nx, hv, (hg.block c (blk_lt hc) (fun e => by
      injection e with e
      subst e
      rw [hw] at hc
      injection hc with hc
      injection hc with _ hc
      exact absurd hc (by decide))).trans hc, ScopeR.step hw hg hr⟩
theorem ScopeR.below {W W' : World} (hb : Below W.heap.size W W') : ∀ {lo : List ByteArray} {v : Value}, ScopeR W v lo → ScopeR W' v lo
  | [], v, h => h
  | nm :: r, v, ⟨c, nx, hv, hc, hr⟩ => ⟨c, nx, hv, blk_below hc hb, ScopeR.below hb hr⟩
def ExAt (Wb : World) (p : Value) (e : S116) : Prop := ∃ (a : Addr) (A : Option Addr) (c : Nat), p = .pointer (some ⟨a.block, a.off, none⟩) ∧ Wb.rangeAt a.block a.off [.int .i64 e.f0, .int .u64 e.f1, .string e.f2, .slice A e.f3.length c] ∧ e.f3.length ≤ c ∧ k116.C Wb A e.f3.length e.f3
def StAt (Wb : World) (p : Value) (x : S119) : Prop := ∃ (a : Addr) (A5 : Option Addr) (c5 : Nat) (A9 : Option Addr) (c9 : Nat) (A12 : Option Addr) (c12 : Nat) (A13 : Option Addr) (c13 : Nat), p = .pointer (some ⟨a.block, a.off, none⟩) ∧
  Wb.rangeAt a.block a.off [.int .i64 x.f0, .string x.f1, .int .i64 x.f2.f0, .int .u64 x.f2.f1, .string x.f2.f2, .slice A5 x.f2.f3.length c5, .int .i64 x.f3.f0, .int .u64 x.f3.f1, .string x.f3.f2, .slice A9 x.f3.f3.length c9, .int .u64 x.f4, .int .u64 x.f5, .slice A12 x.f6.length c12, .slice A13 x.f7.length c13] ∧
  x.f2.f3.length ≤ c5 ∧ k116.C Wb A5 x.f2.f3.length x.f2.f3 ∧ x.f3.f3.length ≤ c9 ∧ k116.C Wb A9 x.f3.f3.length x.f3.f3 ∧ x.f6.length ≤ c12 ∧ k119.C Wb A12 x.f6.length x.f6 ∧ x.f7.length ≤ c13 ∧ k119.C Wb A13 x.f7.length x.f7
def ThP (Wb W : World) (dp sp ep : Value) (dI : Int) (lp : Value) : Th → Prop
  | .decl i => (∃ a, dp = .pointer (some a)) ∧ sp = .pointer none ∧ ep = .pointer none ∧ dI = 0 ∧ lp = .pointer none
  | .stmt s d lo => dp = .pointer none ∧ StAt Wb sp s ∧ ep = .pointer none ∧ dI = (d : Int) ∧ ScopeR W lp lo.reverse
  | .expr e lo => dp = .pointer none ∧ sp = .pointer none ∧ ExAt Wb ep e ∧ dI = 0 ∧ ScopeR W lp lo.reverse
theorem ThP.below {Wb W W' : World} {dp sp ep : Value} {dI : Int} {lp : Value} {t : Th} (h : ThP Wb W dp sp ep dI lp t) (hb : Below W.heap.size W W') : ThP Wb W' dp sp ep dI lp t := by
  cases t with
  | decl i => exact h
  | stmt s d lo => exact ⟨h.1, h.2.1, h.2.2.1, h.2.2.2.1, h.2.2.2.2.below hb⟩
  | expr e lo => exact ⟨h.1, h.2.1, h.2.2.1, h.2.2.2.1, h.2.2.2.2.below hb⟩
theorem ThP.step {Wb W W' : World} {b n : Nat} {sv : Value} (hw : W.heap[b]? = some (.cells #[.int .i64 n, sv] 183 (0, 0))) (hg : W.grownBy W' (some b)) {dp sp ep : Value} {dI : Int} {lp : Value} {t : Th} (h : ThP Wb W dp sp ep dI lp t) : ThP Wb W' dp sp ep dI lp t := by
  cases t with
  | decl i => exact h
  | stmt s d lo => exact ⟨h.1, h.2.1, h.2.2.1, h.2.2.2.1, h.2.2.2.2.step hw hg⟩
  | expr e lo => exact ⟨h.1, h.2.1, h.2.2.1, h.2.2.2.1, h.2.2.2.2.step hw hg⟩
def foundV (n : Nat) : List PanicEntry := [{ v := .iface 289 (.agg #[.int .i64 n]), recovered := false }]
def outE (bad : Bool) (n : Nat) : Ending := if bad = true then .panicked (foundV n) else .returned (.tuple #[])
def SeeOK (Wb : World) (bw : Nat) (R : Th → Prop) (f : Th → Bool) : Prop := ∀ (W : World) (n : Nat) (dp sp ep : Value) (dI : Int) (lp : Value) (t : Th), R t → Below Wb.heap.size Wb W → ThP Wb W dp sp ep dI lp t →
  Calls Tryz.prog 284 #[.agg #[.int .i64 n, dp, sp, ep, .int .i64 dI, lp], .pointer (some ⟨bw, 0, none⟩)] W fun r W' => r = outE (f t) n ∧ Below W.heap.size W W'
abbrev seeV (bw : Nat) : Value := .func (.func 284) #[] #[.pointer (some ⟨bw, 0, none⟩)]
theorem callP_ {P : Program} {ops : Array Oper} {Q : Exit → Act → World → Prop} {oi : Oper} {N : Option Tmp} {a : Act} {w : World} {K : Act → World → Prop} (f : FuncId) (args : Array Value) (hw : Region.wanted oi (yielded ops a.tmps) = true) (hN : oi.dst = N) (hrun : (execOp a.eval oi).run P w = .ok (.enter f args) w)
    (h : Calls P f args w fun e w' => (∃ v, e = .returned v ∧ K (a.put N v) w') ∨ (∃ c, e = .panicked c ∧ Q (.panic c) a w')) : if Region.wanted oi (yielded ops a.tmps) = true then Oper.wp P oi a w K Q else K (a.put N undef) w := by
  rw [if_pos hw]
  subst hN
  unfold Oper.wp
  rw [hrun, Oper.upon_enter]
  refine h.mono fun e w'' hh => ?_
  rcases hh with ⟨v, rfl, hk⟩ | ⟨c, rfl, hk⟩
  · exact hk
  · exact hk
set_option maxHeartbeats 1000000 in
set_option maxRecDepth 100000 in
theorem tell_calls {Wb : World} {bw b : Nat} {R : Th → Prop} {f : Th → Bool} (hs : SeeOK Wb bw R f) (hbb : Wb.heap.size ≤ b) (W : World) (n : Nat) (hn : n < 4611686018427387904) (dp sp ep : Value) (n0 dI : Int) (lp : Value) (t : Th) (hR : R t) (hB : Below Wb.heap.size Wb W)
    (hw : W.heap[b]? = some (.cells #[.int .i64 n, seeV bw] 183 (0, 0))) (ht : ThP Wb W dp sp ep dI lp t) :
    Calls Tryz.prog 122 #[.pointer (some ⟨b, 0, none⟩), .agg #[.int .i64 n0, dp, sp, ep, .int .i64 dI, lp]] W fun r W' => r = outE (f t) n ∧ W'.heap[b]? = some (.cells #[.int .i64 ((n + 1 : Nat) : Int), seeV bw] 183 (0, 0)) ∧ Gw Wb W W' b := by
  have c0 : W.cell? ⟨b, 0, none⟩ = some (.int .i64 n) := (blk_cell hw 0).trans rfl
  have c1 : W.cell? ⟨b, 1, none⟩ = some (seeV bw) := (blk_cell hw 1).trans rfl
  have f0 := blk_frozen hw 0
  have hlt := blk_lt hw
  have hw1 : wrap64 ((n : Int) + 1) = ((n + 1 : Nat) : Int) := wrapN (by omega)
  have HS := Aside0.mk hs
  have HRT := Aside0.mk hR
  clear hR
  have HT := Aside0.mk ht
  have HW := Aside0.mk hw
  have HB := Aside0.mk hB
  have HBB := Aside0.mk hbb
  clear hs ht hw hB hbb
  go_enter Tryz.func122, Tryz.ntmps122
  go_upto_region 3 with (fail)
  refine wp_grown0 ?_
  intro gg
  have HX := Aside0.mk (show Gw Wb W (gw0 gg) b from ⟨(HB.out.setCell (p := ⟨b, 0, none⟩) HBB.out _).alloc (Nat.le_trans HB.out.size (by simp [World.setCell])) _, ⟨rfl, rfl, rfl, by simp [gw0, World.setCell], fun i hi hne => by
    rw [Below.heap_alloc _ _ _ (by simpa [World.setCell] using hi), Below.heap_setCell _ _ _ _ (fun e => hne (by rw [e]))]⟩⟩)
  have HLT := Aside0.mk hlt
  have HXB := Aside0.mk (show (gw0 gg).heap[b]? = some (.cells #[.int .i64 ((n + 1 : Nat) : Int), seeV bw] 183 (0, 0)) by
    rw [Below.heap_alloc _ _ _ (by simpa [World.setCell] using hlt)]
    exact blk_put HW.out 0 _ rfl)
  have y1 : ∀ g' : G (gw0 gg), g'.W.cell? ⟨b, 1, none⟩ = some (seeV bw) := fun g' => (g'.below.cell (p := ⟨b, 1, none⟩) (Nat.lt_of_lt_of_le HLT.out HX.out.grown.size)).trans ((blk_cell HXB.out 1).trans rfl)
  clear c0 c1 f0 hlt
  refine start_ (n := 6) (S := fun w' => ∃ g' : G (gw0 gg), w' = g'.W) (ds := []) #[false, false, false, false, false, false] (by kernel_rfl) rfl rfl ⟨mkG (gg.2.drew), rfl⟩ (fun hHeld => ?_)
  obtain ⟨gd, hgd⟩ := hHeld
  rw [hgd]
  clear hgd
  refine pure_ (i := 0) (N := some 16) (v := ?_) (a' := ?_) #[true, false, false, false, false, false] rfl rfl (by kernel_rfl) (fun _ _ _ h => h) (Or.inl ⟨by rfl, ?_⟩) ?_ ?_
  rotate_left
  · intro w'
    go_simp
    with_reducible rfl
  rotate_left
  · simp only [Act.put, List.setIfInBounds_toArray, List.set_cons_zero, List.set_cons_succ, i64_w, i32_w]
    rfl
  refine pure_ (i := 1) (N := some 17) (v := ?_) (a' := ?_) #[true, true, false, false, false, false] rfl rfl (by kernel_rfl) (fun _ _ _ h => h) (Or.inl ⟨by rfl, ?_⟩) ?_ ?_
  rotate_left
  · intro w'
    go_simp
    with_reducible rfl
  rotate_left
  · simp only [Act.put, List.setIfInBounds_toArray, List.set_cons_zero, List.set_cons_succ, i64_w, i32_w]
    rfl
  refine pure_ (i := 2) (N := some 18) (v := ?_) (a' := ?_) #[true, true, true, false, false, false] rfl rfl (by kernel_rfl) (fun _ _ _ h => h) (Or.inl ⟨by rfl, ?_⟩) ?_ ?_
  rotate_left
  · intro w'
    go_simp
    with_reducible rfl
  rotate_left
  · simp only [Act.put, List.setIfInBounds_toArray, List.set_cons_zero, List.set_cons_succ, i64_w, i32_w]
    rfl
  refine take_ (i := 3) (N := some 19) (v := ?_) (a' := ?_) #[true, true, true, true, false, false] rfl rfl (by kernel_rfl) (fun _ _ _ h => h) (Or.inl ⟨by rfl, ?_⟩) ⟨gd, rfl⟩ ?_ ?_
  rotate_left
  · rintro w' ⟨g', rfl⟩
    go_simp
    with_reducible rfl
  rotate_left
  · simp only [Act.put, List.setIfInBounds_toArray, List.set_cons_zero, List.set_cons_succ, i64_w, i32_w]
    rfl
  refine take_ (i := 4) (N := some 20) (v := ?_) (a' := ?_) #[true, true, true, true, true, false] rfl rfl (by kernel_rfl) (fun _ _ _ h => h) (Or.inl ⟨by rfl, ?_⟩) ⟨gd, rfl⟩ ?_ ?_
  rotate_left
  · rintro w' ⟨g', rfl⟩
    go_simp
    with_reducible rfl
  rotate_left
  · simp only [Act.put, List.setIfInBounds_toArray, List.set_cons_zero, List.set_cons_succ, i64_w, i32_w]
    rfl
  refine one_ (i := 5) (N := some 21) #[true, true, true, true, true, true] rfl rfl (by kernel_rfl) (by simp) (fun K hK => ?_)
  refine callP_ 284 #[.agg #[.int .i64 n, dp, sp, ep, .int .i64 dI, lp], .pointer (some ⟨bw, 0, none⟩)] (by rfl) rfl (by first | (go_simp; done) | (go_simp; rfl)) ?_
  refine (HS.out gd.W n dp sp ep dI lp t HRT.out (HX.out.below.trans (gd.below.mono HX.out.below.size)) ((ThP.step HW.out HX.out.grown HT.out).below gd.below)).mono ?_
  rintro _ w9 ⟨rfl, hb⟩
  have HE := Aside0.mk (And.intro ((gd.below.trans (hb.mono gd.below.size)).block b (Nat.lt_of_lt_of_le HLT.out HX.out.grown.size)) (HX.out.trans (Gw.of_below b HX.out.below (gd.below.trans (hb.mono gd.below.size)))))
  cases hf : f t
  · left
    refine ⟨.tuple #[], rfl, ?_⟩
    refine hK.out _ _ ⟨mkG (gd.below.trans (hb.mono gd.below.size)), rfl⟩ (fun _ => ?_)
    clear hK K
    refine done_ (by kernel_rfl) ?_
    go_wp2_with fail
    first | go_end0 | skip
    exact ⟨by rw [hf]; rfl, HE.out.1.trans HXB.out, HE.out.2⟩
  · right
    exact ⟨_, rfl, rfl, by rw [hf]; rfl, HE.out.1.trans HXB.out, HE.out.2⟩
end Go.Proofs.YtfigjpehecibeaaGreat.L
end
