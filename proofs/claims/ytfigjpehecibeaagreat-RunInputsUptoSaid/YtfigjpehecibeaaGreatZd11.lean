/- Texts joined by a program of mine: Wx. -/
import Derived.Test.YtfigjpehecibeaaGreatZd8
section
namespace Go.Proofs.YtfigjpehecibeaaGreat.L
open Go.RowKit Go.Proofs.YtfigjpehecibeaaGreatW.PrintWords Go.Proofs.YtfigjpehecibeaaGreatW.PrintLast Go.Proofs.YtfigjpehecibeaaGreatW.PrintMore Go.Proofs.YtfigjpehecibeaaGreat.Gr
set_option linter.unusedVariables false
set_option linter.unusedSimpArgs false
attribute [local go_sem] G.cell
def zTh : Value := .agg #[.int .i64 0, .int .i64 0, .int .i64 0, .string ⟨#[]⟩, .int .i64 0, .int .u64 0, .string ⟨#[]⟩, .slice none 0 0, .int .i64 0, .int .u64 0, .string ⟨#[]⟩, .slice none 0 0, .int .u64 0, .int .u64 0, .slice none 0 0, .slice none 0 0, .int .i64 0, .int .u64 0, .string ⟨#[]⟩, .slice none 0 0, .int .i64 0, .slice none 0 0]
theorem info80 : (Tryz.prog.info? 125).map (fun i => (i.zero, i.size, i.bytes)) = some (some zTh, 22, 304) := by kernel_rfl
theorem under70 : Tryz.prog.underlying 112 = some (.slice 125) := by kernel_rfl
theorem weight_pos (e : S116) : 0 < weightE e := by obtain ⟨a, b, s, l⟩ := e; rw [weightE]; omega
theorem Lo.below {W0 w w1 : World} {v lv : Value} {lo : List ByteArray} (h : Lo W0 w v lv lo) (hb : Below w.heap.size w w1) : Lo W0 w1 v lv lo := Kd.R_below h hb
theorem Li.lt {W0 w : World} {v : Value} {xs : List Th} (h : Li 125 W0 w v xs) : ∀ k, v.ownBlock = some k → k < w.heap.size := by
  obtain ⟨_, inner, ho, _⟩ := h
  exact fun k hk => own_lt ho k hk
theorem Gro.cell {W0 w w1 : World} {v v1 : Value} (h : Gro W0 w w1 v v1) {a : Addr} (ha : a.block < w.heap.size) (hn : some a.block ≠ v.ownBlock) : w1.cell? a = w.cell? a := World.cell?_of_block (w := w) (h.grown.block a.block ha hn)
theorem some_ne_of_lt {v : Value} {n : Nat} (h : ∀ k, v.ownBlock = some k → k < n) {m : Nat} (hm : n ≤ m) : some m ≠ v.ownBlock := fun e => by have := h m e.symm; omega
def ExprsC (e : S116) : Prop := ∀ (W0 w : World) (v lv : Value) (xs : List Th) (lo : List ByteArray) (A : Option Addr) (c : Nat), Below W0.heap.size W0 w → k116.C W0 A e.f3.length e.f3 → e.f3.length ≤ c →
  Li 125 W0 w v xs → Lo W0 w v lv lo → xs.length + weightE e ≤ 8388608 →
  Calls Tryz.prog 173 #[v, .agg #[.int .i64 e.f0, .int .u64 e.f1, .string e.f2, .slice A e.f3.length c], lv] w fun r w' => ∃ v1, r = .returned v1 ∧ Li 125 W0 w' v1 (xs ++ exTh e lo) ∧ Gro W0 w w' v v1
set_option maxHeartbeats 800000 in
set_option maxRecDepth 100000 in
theorem exprs_walk (e : S116) (ih : ∀ y ∈ e.f3, ExprsC y) : ExprsC e := by
  intro W0 w v lv xs lo A c hb hc hl HL HO hn
  obtain ⟨La, lc, rfl⟩ := Kd.R_slice HO
  have IH := Aside0.mk ih
  have HC := Aside0.mk hc
  have HB := Aside0.mk hb
  have HLi := Aside0.mk HL
  have HLo := Aside0.mk HO
  have HN := Aside0.mk hn
  have hlm := hc.2.1
  clear ih hc hb HL HO hn
  go_enter Tryz.func173, Tryz.ntmps173
  go_upto_region 1 with (fail)
  refine wp_grown0 ?_
  intro gg
  have gout : ∀ {o : Obj} (g : G (w.alloc o)), Below w.heap.size w g.W := fun g => ((Below.refl _ _).alloc (Nat.le_refl _) _).trans (g.below.mono (by simp))
  refine start_ (n := 9) (S := fun w' => ∃ g' : G _, w' = g'.W) (ds := [7]) #[false, false, false, false, false, false, false, false, false] (by kernel_rfl) rfl rfl ⟨mkG (gg.2.drew), rfl⟩ (fun hHeld => ?_)
  obtain ⟨gd, hgd⟩ := hHeld
  rw [hgd]
  clear hgd
  refine pure_ (i := 0) (N := some 8) (v := ?_) (a' := ?_) #[true, false, false, false, false, false, false, false, false] rfl rfl (by kernel_rfl) (fun _ _ _ h => h) (Or.inl ⟨by rfl, ?_⟩) ?_ ?_
  rotate_left
  · intro w'
    go_simp
    with_reducible rfl
  rotate_left
  · simp only [Act.put, List.setIfInBounds_toArray, List.set_cons_zero, List.set_cons_succ, i64_w, i32_w]
    rfl
  refine take_ (i := 1) (N := some 9) (v := ?_) (a' := ?_) #[true, true, false, false, false, false, false, false, false] rfl rfl (by kernel_rfl) (fun _ _ _ h => h) (Or.inl ⟨by rfl, ?_⟩) ⟨gd, rfl⟩ ?_ ?_
  rotate_left
  · rintro w' ⟨g', rfl⟩
    go_simp
    with_reducible rfl
  rotate_left
  · simp only [Act.put, List.setIfInBounds_toArray, List.set_cons_zero, List.set_cons_succ, i64_w, i32_w]
    rfl
  refine take_ (i := 2) (N := some 10) (v := ?_) (a' := ?_) #[true, true, true, false, false, false, false, false, false] rfl rfl (by kernel_rfl) (fun _ _ _ h => h) (Or.inl ⟨by rfl, ?_⟩) ⟨gd, rfl⟩ ?_ ?_
  rotate_left
  · rintro w' ⟨g', rfl⟩
    go_simp
    with_reducible rfl
  rotate_left
  · simp only [Act.put, List.setIfInBounds_toArray, List.set_cons_zero, List.set_cons_succ, i64_w, i32_w]
    rfl
  refine pure_ (i := 4) (N := some 12) (v := ?_) (a' := ?_) #[true, true, true, false, true, false, false, false, false] rfl rfl (by kernel_rfl) (fun _ _ _ h => h) (Or.inl ⟨by rfl, ?_⟩) ?_ ?_
  rotate_left
  · intro w'
    go_simp
    with_reducible rfl
  rotate_left
  · simp only [Act.put, List.setIfInBounds_toArray, List.set_cons_zero, List.set_cons_succ, i64_w, i32_w]
    rfl
  refine one_ (i := 3) (N := some 11) #[true, true, true, true, true, false, false, false, false] rfl rfl (by kernel_rfl) (by simp) (fun Kr hKr => ?_)
  refine goes_ Tryz.func245 (by kernel_rfl) rfl #[.agg #[.int .i64 e.f0, .int .u64 e.f1, .string e.f2, .slice A e.f3.length c]] (by rfl) rfl rfl (by (try simp only [List.map_toArray, List.map_cons, List.map_nil]); first | done | rfl) ?_
  refine (deep_calls _ e (Nat.le_refl _) (by have := deep_weight e; have := HN.out; omega) A c gd.W (Kd.C_below HC.out (HB.out.trans ((gout gd).mono HB.out.size))) hl).mono ?_
  rintro _ w9 ⟨rfl, hb⟩
  refine ⟨_, rfl, ?_⟩
  obtain ⟨gd, rfl⟩ : ∃ g' : G _, w9 = g'.W := ⟨mkG (gd.below.trans (hb.mono gd.below.size)), rfl⟩
  clear hb
  refine hKr.out _ _ ⟨gd, rfl⟩ (fun _ => ?_)
  clear hKr Kr
  refine norm_ (a' := ?_) ?_ ?_
  rotate_left
  · show Act.put _ (some 11) _ = _
    simp only [Act.put, List.setIfInBounds_toArray, List.set_cons_zero, List.set_cons_succ, i64_w, i32_w]
    rfl
  refine pure_ (i := 5) (N := some 13) (v := ?_) (a' := ?_) #[true, true, true, true, true, true, false, false, false] rfl rfl (by kernel_rfl) (fun _ _ _ h => h) (Or.inl ⟨by rfl, ?_⟩) ?_ ?_
  rotate_left
  · intro w'
    go_simp
    with_reducible rfl
  rotate_left
  · simp only [Act.put, List.setIfInBounds_toArray, List.set_cons_zero, List.set_cons_succ, i64_w, i32_w]
    rfl
  refine one_ (i := 6) (N := some 14) #[true, true, true, true, true, true, true, false, false] rfl rfl (by kernel_rfl) (by simp) (fun Kr hKr => ?_)
  refine event_step (v := .slice (some ⟨gd.W.heap.size, 0, none⟩) 1 1) (w1 := gd.W.alloc (.cells #[.int .i64 2, .int .i64 0, .int .i64 0, .string ⟨#[]⟩, .int .i64 0, .int .u64 0, .string ⟨#[]⟩, .slice none 0 0, .int .i64 0, .int .u64 0, .string ⟨#[]⟩, .slice none 0 0, .int .u64 0, .int .u64 0, .slice none 0 0, .slice none 0 0, .int .i64 e.f0, .int .u64 e.f1, .string e.f2, .slice A e.f3.length c, .int .i64 ((deepE e : Nat) : Int), .slice La lo.length lc] 125)) (by rfl) (by first | (go_simp; done) | (go_simp; rfl)) ?_
  refine hKr.out _ _ ⟨mkG (G.ball gd _), rfl⟩ (fun _ => ?_)
  clear hKr Kr
  refine norm_ (a' := ?_) ?_ ?_
  rotate_left
  · show Act.put _ (some 14) _ = _
    simp only [Act.put, List.setIfInBounds_toArray, List.set_cons_zero, List.set_cons_succ, i64_w, i32_w]
    rfl
  refine last_ (i := 7) (N := some 15) #[true, true, true, true, true, true, true, true, false] rfl rfl (by kernel_rfl) (by simp) (fun Kr hKr => ?_)
  refine Kd.R_append_step (kTh W0) (w0 := W0) W0.heap.size (by rfl) (.tmp 8) (.tmp 14) 112 125 zTh 304 rfl under70 info80 rfl (show 0 < 22 by decide) (by decide) v (xs.map toTV) (toTV (.expr e lo)) [.int .i64 2, .int .i64 0, .int .i64 0, .string ⟨#[]⟩, .int .i64 0, .int .u64 0, .string ⟨#[]⟩, .slice none 0 0, .int .i64 0, .int .u64 0, .string ⟨#[]⟩, .slice none 0 0, .int .u64 0, .int .u64 0, .slice none 0 0, .slice none 0 0, .int .i64 e.f0, .int .u64 e.f1, .string e.f2, .slice A e.f3.length c, .int .i64 ((deepE e : Nat) : Int), .slice La lo.length lc] (fun _ => True) (fun k => some k ≠ v.ownBlock) rfl rfl (kTh_mk (x := toTV (.expr e lo)) (k119_zero W0) (k116_mk W0 e hl HC.out) (HLo.out.below (gout gd))) (fun _ h => ⟨trivial, h⟩) (fun _ _ => trivial) (HLi.out.below (gout gd)) (HB.out.trans ((gout gd).mono HB.out.size)) (Nat.le_trans HB.out.size (gout gd).size) (by have := HN.out; have := weight_pos e; simp; omega) ?_
  intro v1 w1 ho hb1 hg1 hat1
  refine hKr.out _ _ ?_
  clear hKr Kr
  refine norm_ (a' := ?_) ?_ ?_
  rotate_left
  · show Act.put _ (some 15) _ = _
    simp only [Act.put, List.setIfInBounds_toArray, List.set_cons_zero, List.set_cons_succ, i64_w, i32_w]
    rfl
  refine pure_ (i := 8) (N := some 0) (v := ?_) (a' := ?_) #[true, true, true, true, true, true, true, true, true] rfl rfl (by kernel_rfl) (fun _ _ _ h => h) (Or.inl ⟨by rfl, ?_⟩) ?_ ?_
  rotate_left
  · intro w'
    go_simp
    with_reducible rfl
  rotate_left
  · simp only [Act.put, List.setIfInBounds_toArray, List.set_cons_zero, List.set_cons_succ, i64_w, i32_w]
    rfl
  refine done_ (by kernel_rfl) ?_
  have HG := Aside0.mk ((Gro.of_below v (HB.out.trans (((Below.refl w.heap.size w).alloc (Nat.le_refl _) _).mono HB.out.size)) gd.below).trans ⟨hb1, hg1, hat1⟩ : Gro W0 (gw0 gg) w1 v v1)
  have HLi1 := Aside0.mk (show Li 125 W0 w1 v1 (xs ++ [.expr e lo]) by unfold Li; rw [List.map_append]; exact ho)
  have HLo1 := Aside0.mk ((HLo.out.below (gout gd)).step ⟨hb1, hg1, hat1⟩)
  have hvl := Aside0.mk (Li.lt HLi.out)
  clear ho hb1 hg1 hat1
  go_wp2_with fail
  go_loopw [7, 0] (fun i l W => ∃ (k : Nat) (l1 : Value) (W1 : World), i = .int .i64 k ∧ l1 = l ∧ W1 = W ∧ k ≤ e.f3.length ∧ Aside0 (Li 125 W0 W1 l1 (xs ++ [.expr e lo] ++ exThs (e.f3.take k) lo) ∧ Gro W0 (gw0 gg) W1 v l1 ∧ Lo W0 W1 l1 (.slice La lo.length lc) lo)) (fun i _ _ => e.f3.length - (intOf i).toNat)
  case atStart => exact ⟨0, _, _, rfl, rfl, rfl, Nat.zero_le _, ⟨by simpa [exThs] using HLi1.out, HG.out, HLo1.out⟩⟩
  case round =>
    obtain ⟨k, l1, W1, rfl, rfl, rfl, hk, HREL⟩ := hrel
    have hbox : W1.cell? ⟨w.heap.size, 3, none⟩ = some (.slice A e.f3.length c) := (HREL.out.2.1.cell (a := ⟨w.heap.size, 3, none⟩) (by simp [gw0]) (some_ne_of_lt hvl.out (Nat.le_refl _))).trans (by simp [gw0, go_sem])
    by_cases hlt : k < e.f3.length
    · obtain ⟨ad, A3, c3, e1, q0, q1, q2, q3, l3, g3⟩ := at_T116 HC.out (k : Int) (Int.natCast_nonneg _) (by omega)
      cases e1
      rw [Int.toNat_natCast] at q0 q1 q2 q3
      have hBB := HREL.out.2.1.below
      replace q0 := (hBB.cell (World.block_lt_of_cell? W0 _ q0)).trans q0
      replace q1 := (hBB.cell (World.block_lt_of_cell? W0 _ q1)).trans q1
      replace q2 := (hBB.cell (World.block_lt_of_cell? W0 _ q2)).trans q2
      replace q3 := (hBB.cell (World.block_lt_of_cell? W0 _ q3)).trans q3
      have hi1 : (k : Int) < (e.f3.length : Int) := by omega
      have K := Aside0.mk (And.intro l3 g3)
      have HBB := Aside0.mk hBB
      clear l3 g3 hBB
      have MEM := Aside0.mk (rd75_mem hlt)
      have T := Aside0.mk (congrArg (fun l => exThs l lo) (take_rd116 hlt))
      have T2 := Aside0.mk (congrArg weightL (take_rd116 hlt))
      have IH1 := Aside0.mk (IH.out _ MEM.out)
      clear MEM
      generalize rd_T116 e.f3 (k : Int) = y at *
      go_wp2_with fail
      have HN1 : (xs ++ [Th.expr e lo] ++ exThs (e.f3.take k) lo).length + weightE y ≤ 8388608 := by
        have h1 := HN.out
        have h2 := T2.out
        have h3 := weightL_take e.f3 (k + 1)
        rw [weightL_add] at h2
        rw [weightE_eq] at h1
        simp only [List.length_append, exThs_len, List.length_singleton]
        omega
      have CALL := IH1.out W0 W1 l1 (.slice La lo.length lc) (xs ++ [Th.expr e lo] ++ exThs (e.f3.take k) lo) lo A3 c3 HBB.out K.out.2 K.out.1 HREL.out.1 HREL.out.2.2 HN1
      refine CALL.mono ?_
      clear CALL
      rintro _ W2 ⟨l2, rfl, hLi2, hGro2⟩
      have HR2 := Aside0.mk (And.intro hLi2 hGro2)
      clear hLi2 hGro2
      go_wp2_with fail
      refine ⟨⟨k + 1, l2, W2, by go_num, rfl, rfl, by omega, ⟨?_, HREL.out.2.1.trans HR2.out.2, HREL.out.2.2.step HR2.out.2⟩⟩, by simp [intOf]; omega⟩
      have h1 := HR2.out.1
      have h2 := T.out
      simp only [exThs_add] at h2
      rw [h2, ← List.append_assoc]
      exact h1
    · go_wp2_with fail
      go_ret
      refine ⟨l1, rfl, ?_, ?_⟩
      · have h1 := HREL.out.1
        rw [show k = e.f3.length by omega, List.take_length, List.append_assoc] at h1
        rw [exTh_eq]
        exact h1
      · exact (Gro.of_below v HB.out ((Below.refl _ _).alloc (Nat.le_refl _) _)).trans HREL.out.2.1
theorem exprs_calls : ∀ (n : Nat) (e : S116), SizeOf.sizeOf e ≤ n → ExprsC e := by
  intro n
  induction n with
  | zero => intro e h; obtain ⟨a, b, s, l⟩ := e; simp at h
  | succ n ih => exact fun e h => exprs_walk e fun y hy => ih y (rd75_size rfl hy h)
end Go.Proofs.YtfigjpehecibeaaGreat.L
end
