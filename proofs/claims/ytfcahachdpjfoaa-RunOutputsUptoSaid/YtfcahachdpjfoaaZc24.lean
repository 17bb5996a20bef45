/- Texts joined by a program of mine: Sj Tj Oe Tl. -/
import Derived.Test.YtfcahachdpjfoaaZc8
import Derived.Test.YtfcahachdpjfoaaZc20
import Derived.Test.YtfcahachdpjfoaaZc21
import Derived.Test.YtfcahachdpjfoaaZc22
import Derived.Test.YtfcahachdpjfoaaZc23
section
namespace Go.Proofs.Ytfcahachdpjfoaa.L
open Go.RowKit Go.Proofs.YtfcahachdpjfoaaW.PrintWords
set_option linter.unusedVariables false
set_option linter.unusedSimpArgs false
theorem right_decls {nm : ByteArray} {wd ln : Int} {ds : List S44} {bd : List S77} (h : (faultS nm wd ln ds bd).e = 0) : ∀ i : Nat, i < ds.length → 1 ≤ (rd_T44 ds (i : Int)).f0 ∧ ((rd_T44 ds (i : Int)).f2 = 0 ∨ pow2B (rd_T44 ds (i : Int)).f2 = true) := by
  intro i hi
  have hr := right_all h
  refine ⟨?_, ?_⟩
  · have hform : formB nm wd ln ds bd = true := b_no (hr 0 (by decide))
    unfold formB at hform
    simp only [Bool.and_eq_true] at hform
    have := List.all_eq_true.1 hform.2.1 _ (rd44_mem hi)
    unfold dcB at this
    simp only [Bool.and_eq_true, decide_eq_true_eq] at this
    exact this.1.1.1.1
  · have h6 := firstN_all (firstD_no (hr 5 (by decide))) i hi
    unfold sizeBad at h6
    simp only [Bool.and_eq_false_iff, bne_eq_false_iff_eq, Bool.not_eq_false'] at h6
    exact h6
end Go.Proofs.Ytfcahachdpjfoaa.L
end
section
namespace Go.Proofs.Ytfcahachdpjfoaa.L
open Go.RowKit Go.Proofs.YtfcahachdpjfoaaW.PrintWords
set_option linter.unusedVariables false
set_option linter.unusedSimpArgs false
theorem mx_words {d : S44} (h : d.f2 = 0 ∨ pow2B d.f2 = true) : mx d.f2 1 = wordsD d ∧ 1 ≤ wordsD d ∧ wordsD d ≤ 256 := by
  have h1 := words_le h
  refine ⟨?_, h1⟩
  unfold mx wordsD
  rcases h with h | h
  · rw [h]; rfl
  · have := pow2_le h
    split <;> split <;> omega
theorem outs_both (nm : ByteArray) (wd ln : Int) (ds : List S44) (bd : List S77) (st : List (List Int)) (ev : List S62) (hds : ds.length ≤ 1048576) (hr : ∀ i : Nat, i < ds.length → (rd_T44 ds (i : Int)).f2 = 0 ∨ pow2B (rd_T44 ds (i : Int)).f2 = true) :
    ∀ (d i at' k : Nat) (acc : List Int), i + d = ds.length → 2 * d < k → at' ≤ i → acc.length ≤ 256 * i →
    ∃ r : List Int × Int, run_Outputs.l0 k acc (at' : Int) ds (ds.length : Int) (i : Int) st ev = some r ∧ cadenceref17_Outputs.l0 k (at' : Int) acc (i : Int) nm wd ln ds bd st ev = some r ∧ r.1.length ≤ 256 * ds.length := by
  intro d
  induction d with
  | zero =>
    intro i at' k acc hi hk ha hl
    obtain ⟨k, rfl⟩ : ∃ a, k = a + 1 := ⟨k - 1, by omega⟩
    have hn : ¬ (i : Int) < (ds.length : Int) := by omega
    rw [run_Outputs.l0, cadenceref17_Outputs.l0]
    simp only [if_neg hn]
    by_cases h : (at' : Int) = (st.length : Int)
    · simp only [if_pos h]
      refine ⟨_, rfl, rfl, ?_⟩
      have : i = ds.length := by omega
      show acc.length ≤ 256 * ds.length
      omega
    · simp only [if_neg h]
      exact ⟨_, rfl, rfl, by simp⟩
  | succ d ih =>
    intro i at' k acc hi hk ha hl
    obtain ⟨k, rfl⟩ : ∃ a, k = a + 1 := ⟨k - 1, by omega⟩
    have a1 : (i : Int) < (ds.length : Int) := by omega
    have a0 : (0 : Int) ≤ (i : Int) := by omega
    rw [run_Outputs.l0, cadenceref17_Outputs.l0]
    simp only [if_pos a1, if_pos a0]
    have e1 : wrap64 ((i : Int) + 1) = ((i + 1 : Nat) : Int) := by unfold wrap64; omega
    have e2 : wrap64 ((at' : Int) + 1) = ((at' + 1 : Nat) : Int) := by unfold wrap64; omega
    by_cases h3 : (rd_T44 ds (i : Int)).f0 = 3
    · simp only [if_pos h3, e1]
      exact ih (i + 1) at' k acc (by omega) (by omega) (by omega) (by omega)
    · simp only [if_neg h3]
      obtain ⟨k, rfl⟩ : ∃ a, k = a + 1 := ⟨k - 1, by omega⟩
      by_cases h4 : (at' : Int) ≥ (st.length : Int)
      · simp only [if_pos h4, run_Outputs.j1, cadenceref17_Outputs.j1, if_true]
        exact ⟨_, rfl, rfl, by simp⟩
      · have a4 : (at' : Int) < (st.length : Int) := by omega
        have a5 : (0 : Int) ≤ (at' : Int) := by omega
        simp only [if_neg h4, if_pos a4, if_pos a5]
        unfold run_words.f cadenceref17_words.f
        obtain ⟨w1, w2, w3⟩ := mx_words (hr i (by omega))
        simp only [Option.bind_some, run_Outputs.j1, cadenceref17_Outputs.j1, w1]
        by_cases h5 : (((rd_L5 st (at' : Int)).length : Int) != wordsD (rd_T44 ds (i : Int))) = true
        · simp only [if_pos h5]
          exact ⟨_, rfl, rfl, by simp⟩
        · simp only [if_neg h5, e1, e2]
          have h6 : ((rd_L5 st (at' : Int)).length : Int) = wordsD (rd_T44 ds (i : Int)) := by simpa using h5
          by_cases h7 : (rd_T44 ds (i : Int)).f0 = 5
          · have a6 : acc.length + (rd_L5 st (at' : Int)).length < 17592186044416 := by omega
            simp only [if_pos h7, if_pos a5, if_pos a4, if_pos a6]
            refine ih (i + 1) (at' + 1) k _ (by omega) (by omega) (by omega) ?_
            rw [List.length_append]
            omega
          · simp only [if_neg h7]
            exact ih (i + 1) (at' + 1) k acc (by omega) (by omega) (by omega) (by omega)
theorem outputs_same {nm : ByteArray} {wd ln : Int} {ds : List S44} {bd : List S77} (hg : PGood nm wd ln ds bd) (st : List (List Int)) (ev : List S62) :
    ∃ (k : Nat) (r : List Int × Int), run_Outputs.f k nm wd ln ds bd st ev = some r ∧ cadenceref17_Outputs.f k nm wd ln ds bd st ev = some r ∧ r.1.length ≤ 268435456 := by
  unfold run_Outputs.f cadenceref17_Outputs.f cadenceref16_Check.f wf_Check.f
  simp only [if_pos hg, Option.bind_some]
  by_cases h : (faultS nm wd ln ds bd).e = 0
  · simp only [if_pos h]
    have hs := hg.sizes.1
    obtain ⟨r, h1, h2, h3⟩ := outs_both nm wd ln ds bd st ev hs (fun i hi => (right_decls h i hi).2) ds.length 0 0 (2 * ds.length + 1) [] (by omega) (by omega) (by omega) (by simp)
    exact ⟨2 * ds.length + 1, r, h1, h2, by omega⟩
  · simp only [if_neg h]
    exact ⟨0, _, rfl, rfl, by simp⟩
end Go.Proofs.Ytfcahachdpjfoaa.L
end
section
set_option linter.unusedVariables false
namespace Go.Proofs.Ytfcahachdpjfoaa.Ot
open Go.RowKit Go.Proofs.Ytfcahachdpjfoaa.L Go.Proofs.YtfcahachdpjfoaaW.PrintWords Go.Proofs.Ytfcahachdpjfoaa.Op
structure RunEnd where
  st : List (List Int)
  ev : List S62
def kR : Kd RunEnd := Kd.iso (Kd.pair (Kd.slice 42 (Kd.slice 60 (Kd.int .u64))) (Kd.slice 62 k62)) (fun x : RunEnd => (x.st, x.ev))
abbrev opensR_K (w : World) : RunEnd → List Value → Prop := kR.K w
abbrev opensR_good (x : RunEnd) : Prop := True
abbrev opensR_bulk (x : RunEnd) : Nat := 0
theorem opens62 {H : Type} {enc : TypeId × Value → H} {w : World} (n : Nat) : Opens enc Try.prog w Rows.uptoBulk n 62 k62 (fun _ => True) (fun _ => 0) := by
  have h : Opens enc Try.prog w Rows.uptoBulk n 62 (Kd.pair (Kd.int .i64) (Kd.pair (Kd.int .u64) (Kd.int .u64))) _ _ := opens_struct bulk (fs := [(3, 0), (60, 1), (60, 2)]) Try.underlying62 rfl fun m hm =>
    opensF_cons (opens_int bulk Try.underlying3) (by kernel_rfl) (opensF_cons (opens_int bulk Try.underlying60) (by kernel_rfl)
      (opensF_last (opens_int bulk Try.underlying60) (Nat.le_of_eq (by kernel_rfl))))
  exact opens_weaken (opens_iso (f := fun x : S62 => (x.f0, x.f1, x.f2)) (fun p => ⟨p.1, p.2.1, p.2.2⟩) (fun _ => rfl) h) (fun _ _ => trivial) (fun _ => Nat.zero_le _)
theorem opensR {H : Type} {enc : TypeId × Value → H} {w : World} (n : Nat) : Opens enc Try.prog w Rows.uptoBulk n 54 kR opensR_good opensR_bulk := by
  have h : Opens enc Try.prog w Rows.uptoBulk n 54 (Kd.pair (Kd.slice 42 (Kd.slice 60 (Kd.int .u64))) (Kd.slice 62 k62)) _ _ := opens_struct bulk (fs := [(52, 0), (22, 1)]) Try.underlying54 rfl fun m hm =>
    opensF_cons (opens_slice bulk (bytes := 24) Try.underlying52 (by kernel_rfl) (by kernel_rfl) (by decide) fun m' hm' => opens_slice bulk (bytes := 8) Try.underlying42 (by kernel_rfl) (by kernel_rfl) (by decide) fun m' hm' => opens_int bulk Try.underlying60) (by kernel_rfl)
      (opensF_last (opens_slice bulk (bytes := 24) Try.underlying22 (by kernel_rfl) (by kernel_rfl) (by decide) fun m' hm' => opens62 m') (Nat.le_of_eq (by kernel_rfl)))
  exact opens_weaken (opens_iso (f := fun x : RunEnd => (x.st, x.ev)) (fun p => ⟨p.1, p.2⟩) (fun _ => rfl) h) (fun _ _ => trivial) (fun _ => Nat.zero_le _)
theorem end_of_K {w : World} {x : RunEnd} {v : Value} (hs : ∃ vs, v = .agg vs) (h : kR.K w x v.cells.toList) : ∃ A0 c0 A1 c1, v = .agg #[.slice A0 x.st.length c0, .slice A1 x.ev.length c1] ∧ x.st.length ≤ c0 ∧ Kd.C (Kd.slice 60 (Kd.int .u64)) w A0 x.st.length x.st ∧ x.ev.length ≤ c1 ∧ Kd.C k62 w A1 x.ev.length x.ev := by
  obtain ⟨vs, rfl⟩ := hs
  obtain ⟨_, _, e, ⟨A0, c0, rfl, l0, g0⟩, ⟨A1, c1, rfl, l1, g1⟩⟩ := h
  obtain ⟨vs⟩ := vs
  simp [Value.cells] at e
  subst e
  exact ⟨A0, c0, A1, c1, rfl, l0, g0, l1, g1⟩
end Go.Proofs.Ytfcahachdpjfoaa.Ot
end
section
namespace Go.Proofs.Ytfcahachdpjfoaa.L
open Go.RowKit Go.Proofs.YtfcahachdpjfoaaW.PrintWords Go.Proofs.YtfcahachdpjfoaaW.PrintLast Go.Proofs.YtfcahachdpjfoaaW.PrintMore Go.Proofs.Ytfcahachdpjfoaa.Gr
set_option linter.unusedVariables false
set_option linter.unusedSimpArgs false
attribute [local go_sem] G.cell
theorem same_words (l : List Int) (hl : l.length ≤ 268435456) : ∃ k, cadencelaw17_words.f k l l = some true := by
  have h : ∀ d i : Nat, i + d = l.length → cadencelaw17_words.l0 (d + 1) l l (i : Int) = some true := by
    intro d
    induction d with
    | zero => intro i hi; have hn : ¬ (i : Int) < (l.length : Int) := by omega
              rw [cadencelaw17_words.l0, if_neg hn]
    | succ d ih =>
      intro i hi
      have a1 : (i : Int) < (l.length : Int) := by omega
      have a0 : (0 : Int) ≤ (i : Int) := by omega
      have e1 : wrap64 ((i : Int) + 1) = ((i + 1 : Nat) : Int) := by unfold wrap64; omega
      rw [cadencelaw17_words.l0]
      simp only [if_pos a1, if_pos a0, if_true, e1]
      exact ih (i + 1) (by omega)
  refine ⟨l.length + 1, ?_⟩
  unfold cadencelaw17_words.f
  rw [if_pos rfl]
  exact h l.length 0 (by omega)
set_option maxHeartbeats 4000000 in
set_option maxRecDepth 100000 in
theorem runOutputs_walk (nm : ByteArray) (wd ln : Int) (ds : List S44) (bd : List S77) (A3 : Option Addr) (c3 : Nat) (A4 : Option Addr) (c4 : Nat) (st : List (List Int)) (ev : List S62) (B0 : Option Addr) (d0 : Nat) (B1 : Option Addr) (d1 : Nat) (w : World) (hp : ProgAt w ds bd A3 c3 A4 c4) (hg : PGood nm wd ln ds bd)
    (hs : Kd.C (Kd.slice 60 (Kd.int .u64)) w B0 st.length st) (hls : st.length ≤ d0) (he : Kd.C k62 w B1 ev.length ev) (hle : ev.length ≤ d1) :
    Calls Try.prog 7 #[.agg #[.string nm, .int .i64 wd, .int .i64 ln, .slice A3 ds.length c3, .slice A4 bd.length c4], .agg #[.slice B0 st.length d0, .slice B1 ev.length d1]] w fun e w' => e = .returned (.bool true) ∧ Below w.heap.size w w' := by
  have gout : ∀ {o1 o2 : Obj} (g : G ((w.alloc o1).alloc o2)), Below w.heap.size w g.W := fun g => (((Below.refl _ _).alloc (Nat.le_refl _) _).alloc (by simp) _).trans (g.below.mono (by simp; omega))
  have PAt := Aside0.mk hp
  have HG := Aside0.mk hg
  have HST := Aside0.mk (And.intro hs (And.intro hls (And.intro he hle)))
  obtain ⟨kk, ⟨r1, r2⟩, h1, h2, h3⟩ := outputs_same hg st ev
  have HO := Aside0.mk (And.intro h1 (And.intro h2 h3))
  clear hp hg hs hls he hle h1 h2 h3
  go_enter Try.func7, Try.ntmps7
  go_upto_region 1 with (fail)
  refine wp_grown0 ?_
  intro gg
  have WG := Aside0.mk (gout gg)
  refine start_ (n := 9) (S := fun w' => ∃ g' : G _, w' = g'.W) (ds := []) #[false, false, false, false, false, false, false, false, false] (by kernel_rfl) rfl rfl ⟨mkG (gg.2.drew), rfl⟩ (fun hHeld => ?_)
  obtain ⟨gd, hgd⟩ := hHeld
  rw [hgd]
  clear hgd
  refine take_ (i := 0) (N := some 10) (v := ?_) (a' := ?_) #[true, false, false, false, false, false, false, false, false] rfl rfl (by kernel_rfl) (fun _ _ _ h => h) (Or.inl ⟨by rfl, ?_⟩) ⟨gd, rfl⟩ ?_ ?_
  rotate_left
  · rintro w' ⟨g', rfl⟩
    go_simp
    with_reducible rfl
  rotate_left
  · simp only [Act.put, List.setIfInBounds_toArray, List.set_cons_zero, List.set_cons_succ, i64_w, i32_w]
    rfl
  refine take_ (i := 2) (N := some 12) (v := ?_) (a' := ?_) #[true, false, true, false, false, false, false, false, false] rfl rfl (by kernel_rfl) (fun _ _ _ h => h) (Or.inl ⟨by rfl, ?_⟩) ⟨gd, rfl⟩ ?_ ?_
  rotate_left
  · rintro w' ⟨g', rfl⟩
    go_simp
    with_reducible rfl
  rotate_left
  · simp only [Act.put, List.setIfInBounds_toArray, List.set_cons_zero, List.set_cons_succ, i64_w, i32_w]
    rfl
  refine one_ (i := 1) (N := some 11) #[true, true, true, false, false, false, false, false, false] rfl rfl (by kernel_rfl) (by simp) (fun Kr hKr => ?_)
  refine goes_ Try.func24 (by kernel_rfl) rfl #[.agg #[.string nm, .int .i64 wd, .int .i64 ln, .slice A3 ds.length c3, .slice A4 bd.length c4]] (by rfl) rfl rfl (by (try simp only [List.map_toArray, List.map_cons, List.map_nil]); first | done | rfl) ?_
  refine (own_calls nm wd ln ds bd A3 c3 A4 c4 gd.W (PAt.out.below (gout gd)) HG.out).mono ?_
  rintro _ w9 ⟨A3', c3', A4', c4', rfl, hp9, hb⟩
  refine ⟨_, rfl, ?_⟩
  have P9 := Aside0.mk hp9
  clear hp9
  obtain ⟨gd, rfl⟩ : ∃ g' : G _, w9 = g'.W := ⟨mkG (gd.below.trans (hb.mono gd.below.size)), rfl⟩
  clear hb
  refine hKr.out _ _ ⟨gd, rfl⟩ (fun _ => ?_)
  clear hKr Kr
  refine norm_ (a' := ?_) ?_ ?_
  rotate_left
  · show Act.put _ (some 11) _ = _
    simp only [Act.put, List.setIfInBounds_toArray, List.set_cons_zero, List.set_cons_succ, i64_w, i32_w]
    rfl
  refine one_ (i := 3) (N := some 13) #[true, true, true, true, false, false, false, false, false] rfl rfl (by kernel_rfl) (by simp) (fun Kr hKr => ?_)
  refine goes_ Try.func23 (by kernel_rfl) rfl #[.agg #[.string nm, .int .i64 wd, .int .i64 ln, .slice A3' ds.length c3', .slice A4' bd.length c4'], .agg #[.slice B0 st.length d0, .slice B1 ev.length d1]] (by rfl) rfl rfl (by (try simp only [List.map_toArray, List.map_cons, List.map_nil]); first | done | rfl) ?_
  refine (run_Outputs.calls kk nm wd ln A3' c3' ds A4' c4' bd B0 d0 st B1 d1 ev r1 r2 gd.W P9.out.hd P9.out.hld P9.out.hb P9.out.hlb (Kd.C_below HST.out.1 (gout gd)) HST.out.2.1 (Kd.C_below HST.out.2.2.1 (gout gd)) HST.out.2.2.2 HO.out.1).mono ?_
  rintro _ w9 ⟨v9, rfl, hR9, hb⟩
  refine ⟨_, rfl, ?_⟩
  obtain ⟨A9, c9, rfl, l9, g9⟩ := Kd.R_reads hR9
  have P9 := Aside0.mk (And.intro g9 l9)
  clear hR9 g9 l9
  obtain ⟨gd, rfl⟩ : ∃ g' : G _, w9 = g'.W := ⟨mkG (gd.below.trans (hb.mono gd.below.size)), rfl⟩
  clear hb
  refine hKr.out _ _ ⟨gd, rfl⟩ (fun _ => ?_)
  clear hKr Kr
  refine norm_ (a' := ?_) ?_ ?_
  rotate_left
  · show Act.put _ (some 13) _ = _
    simp only [Act.put, List.setIfInBounds_toArray, List.set_cons_zero, List.set_cons_succ, i64_w, i32_w]
    rfl
  refine pure_ (i := 4) (N := some 9) (v := ?_) (a' := ?_) #[true, true, true, true, true, false, false, false, false] rfl rfl (by kernel_rfl) (fun _ _ _ h => h) (Or.inl ⟨by rfl, ?_⟩) ?_ ?_
  rotate_left
  · intro w'
    go_simp
    with_reducible rfl
  rotate_left
  · simp only [Act.put, List.setIfInBounds_toArray, List.set_cons_zero, List.set_cons_succ, i64_w, i32_w]
    rfl
  refine pure_ (i := 5) (N := some 14) (v := ?_) (a' := ?_) #[true, true, true, true, true, true, false, false, false] rfl rfl (by kernel_rfl) (fun _ _ _ h => h) (Or.inl ⟨by rfl, ?_⟩) ?_ ?_
  rotate_left
  · intro w'
    go_simp
    with_reducible rfl
  rotate_left
  · simp only [Act.put, List.setIfInBounds_toArray, List.set_cons_zero, List.set_cons_succ, i64_w, i32_w]
    rfl
  refine pure_ (i := 6) (N := some 15) (v := ?_) (a' := ?_) #[true, true, true, true, true, true, true, false, false] rfl rfl (by kernel_rfl) (fun _ _ _ h => h) (Or.inl ⟨by rfl, ?_⟩) ?_ ?_
  rotate_left
  · intro w'
    go_simp
    with_reducible rfl
  rotate_left
  · simp only [Act.put, List.setIfInBounds_toArray, List.set_cons_zero, List.set_cons_succ, i64_w, i32_w]
    rfl
  refine pure_ (i := 7) (N := some 5) (v := ?_) (a' := ?_) #[true, true, true, true, true, true, true, true, false] rfl rfl (by kernel_rfl) (fun _ _ _ h => h) (Or.inl ⟨by rfl, ?_⟩) ?_ ?_
  rotate_left
  · intro w'
    go_simp
    with_reducible rfl
  rotate_left
  · simp only [Act.put, List.setIfInBounds_toArray, List.set_cons_zero, List.set_cons_succ, i64_w, i32_w]
    rfl
  refine pure_ (i := 8) (N := some 6) (v := ?_) (a' := ?_) #[true, true, true, true, true, true, true, true, true] rfl rfl (by kernel_rfl) (fun _ _ _ h => h) (Or.inl ⟨by rfl, ?_⟩) ?_ ?_
  rotate_left
  · intro w'
    go_simp
    with_reducible rfl
  rotate_left
  · simp only [Act.put, List.setIfInBounds_toArray, List.set_cons_zero, List.set_cons_succ, i64_w, i32_w]
    rfl
  refine done_ (by kernel_rfl) ?_
  have P1 := P9
  clear P9
  have GD := Aside0.mk (gout gd)
  go_wp2_with fail
  refine (cadenceref17_Outputs.calls kk nm wd ln A3 c3 ds A4 c4 bd B0 d0 st B1 d1 ev r1 r2 gd.W (PAt.out.below GD.out).hd (PAt.out.below GD.out).hld (PAt.out.below GD.out).hb (PAt.out.below GD.out).hlb (Kd.C_below HST.out.1 GD.out) HST.out.2.1 (Kd.C_below HST.out.2.2.1 GD.out) HST.out.2.2.2 HO.out.2.1).mono ?_
  rintro _ w9 ⟨v9, rfl, hR9, hb⟩
  obtain ⟨Ab, cb, rfl, lb, gb⟩ := Kd.R_reads hR9
  have P2 := Aside0.mk (And.intro gb (And.intro lb hb))
  clear hR9 gb lb hb
  have WB := Aside0.mk (show Below w.heap.size w w9 from GD.out.trans (P2.out.2.2.mono GD.out.size))
  obtain ⟨kw, hkw⟩ := same_words r1 HO.out.2.2
  have HKW := Aside0.mk hkw
  clear hkw
  go_wp2_with fail
  refine (cadencelaw17_words.calls kw A9 c9 r1 Ab cb r1 true w9 (Kd.C_below P1.out.1 P2.out.2.2) P1.out.2 P2.out.1 P2.out.2.1 HKW.out).mono ?_
  rintro _ w2 ⟨rfl, hd⟩
  have HD := Aside0.mk hd
  clear hd
  go_wp2_with fail
  go_ret
  exact ⟨rfl, WB.out.trans (HD.out.below.mono WB.out.size)⟩
theorem runOutputs_law (v0 : Value) (x0 : Ot.Prog) (v1 : Value) (x1 : Ot.RunEnd) (w : World) (s0 : ∃ cs, v0 = .agg cs ∧ cs.size = Try.prog.cellsOf 29) (k0 : Ot.opensP_K w x0 v0.cells.toList) (g0 : Ot.opensP_good x0) {m0 m1 : Nat} (b0 : Ot.opensP_bulk x0 ≤ m0) (s1 : ∃ cs, v1 = .agg cs ∧ cs.size = Try.prog.cellsOf 54) (k1 : Ot.opensR_K w x1 v1.cells.toList) (g1 : Ot.opensR_good x1) (b1 : Ot.opensR_bulk x1 ≤ m1) (up : m0 + m1 ≤ 1048576) :
    Calls Try.prog 7 #[v0, v1] w fun e w' => e = .returned (.bool true) ∧ Below w.heap.size w w' := by
  obtain ⟨A3, c3, A4, c4, rfl, l3, g3, l4, g4⟩ := Ot.prog_of_K (s0.imp fun _ h => h.1) k0
  obtain ⟨B0, d0, B1, d1, rfl, l5, g5, l6, g6⟩ := Ot.end_of_K (s1.imp fun _ h => h.1) k1
  exact runOutputs_walk x0.nm x0.wd x0.ln x0.ds x0.bd A3 c3 A4 c4 x1.st x1.ev B0 d0 B1 d1 w ⟨g3, l3, g4, l4⟩ ⟨g0, Nat.le_trans b0 (by omega)⟩ g5 l5 g6 l6
end Go.Proofs.Ytfcahachdpjfoaa.L
end
