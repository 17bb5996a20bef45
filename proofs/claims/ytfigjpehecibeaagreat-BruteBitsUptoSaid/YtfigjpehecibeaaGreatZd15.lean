/- Texts joined by a program of mine: Ve Vf Ua Ub Uc Ud Ui. -/
import Derived.Defers
import Derived.Recover
import Derived.Laws.Pointers
import Derived.Test.YtfigjpehecibeaaGreatZd14
section
namespace Go.Proofs.YtfigjpehecibeaaGreat.L
open Go.RowKit Go.Proofs.YtfigjpehecibeaaGreatW.PrintWords Go.Proofs.YtfigjpehecibeaaGreatW.PrintLast Go.Proofs.YtfigjpehecibeaaGreatW.PrintMore Go.Proofs.YtfigjpehecibeaaGreat.Gr
set_option linter.unusedVariables false
set_option linter.unusedSimpArgs false
attribute [local go_sem] G.cell
theorem wpS_norm {P : Program} {c : Code} {Q : Exit → Act → List Frame → World → Prop} {a a' : Act} {cs : List Frame} {w : World} (h : a = a') (k : c.wpS P Q a' cs w) : c.wpS P Q a cs w := h ▸ k
def WrongOK (W0 : World) (p1 p2 : Value) (R : Th → Prop) (f : Th → Bool) : Prop := ∀ (Wb W : World) (n : Nat) (dp sp ep : Value) (dI : Int) (lp : Value) (t : Th), R t → Below W0.heap.size W0 Wb → Below Wb.heap.size Wb W → ThP Wb W dp sp ep dI lp t →
  Calls Tryz.prog 251 #[.agg #[.int .i64 n, dp, sp, ep, .int .i64 dI, lp], p1, p2] W fun r W' => r = .returned (.bool (f t)) ∧ Below W.heap.size W W'
set_option maxHeartbeats 1000000 in
set_option maxRecDepth 100000 in
theorem see_ok {W0 Wb : World} {bw : Nat} {p1 p2 : Value} {R : Th → Prop} {f : Th → Bool} (hb0 : Below W0.heap.size W0 Wb) (hbw : Wb.heap[bw]? = some (.cells #[.func (.func 251) #[] #[p1, p2]] 272 (0, 0))) (hw : WrongOK W0 p1 p2 R f) : SeeOK Wb bw R f := by
  intro W n dp sp ep dI lp t hR hB ht
  have gout : ∀ {o : Obj} (g : G (W.alloc o)), Below W.heap.size W g.W := fun g => ((Below.refl _ _).alloc (Nat.le_refl _) _).trans (g.below.mono (by simp))
  have HRT := Aside0.mk hR
  clear hR
  have HB := Aside0.mk hB
  have HT := Aside0.mk ht
  have HW := Aside0.mk (hw Wb)
  have H0 := Aside0.mk hb0
  have HBW := Aside0.mk ((hB.block bw (blk_lt hbw)).trans hbw)
  have hlt := blk_lt HBW.out
  have z0 : W.cell? ⟨bw, 0, none⟩ = some (.func (.func 251) #[] #[p1, p2]) := (blk_cell HBW.out 0).trans rfl
  clear hB ht hw hb0 hbw
  go_enter Tryz.func284, Tryz.ntmps284
  go_upto_region 1 with (fail)
  refine wp_grown0 ?_
  intro gg
  go_wp2_with fail
  refine (call_of (g := gg) (HW.out gg.W n dp sp ep dI lp t HRT.out H0.out (HB.out.trans ((gout gg).mono HB.out.size)) (HT.out.below (gout gg)))).mono ?_
  rintro _ _ ⟨rfl, gg, rfl⟩
  cases hf : f t
  · have HF := Aside0.mk hf
    clear hf
    go_wp2_with fail
    first | go_end0 | skip
    exact ⟨by rw [HF.out]; rfl, gout _⟩
  · have HF := Aside0.mk hf
    clear hf
    go_wp2_with fail
    exact ⟨rfl, by rw [HF.out]; rfl, gout _⟩
set_option maxHeartbeats 1000000 in
set_option maxRecDepth 100000 in
theorem catch_idle (a4 a5 : Value) (w : World) : CallsD Tryz.prog 283 #[a4, a5] .returning w fun e u' w' => e = .returned (.tuple #[]) ∧ u' = .returning ∧ w' = w := by
  refine callsD_of_wpS Tryz.func283 rfl fun c₀ cs hu => ?_
  apply wpS_seq
  apply wpS_region
  simp [wpOpsS, go_sem, recoverD, hu, Tryz.ntmps283, Exit.thenS]
  refine wpS_of_wp ?_
  go_wp2_with fail
  cases c₀
  simp_all [bodyPostS, results, Tryz.results104]
theorem assert_found (m : Nat) (w : World) : (Instr.typeAssert (.iface 289 (.agg #[.int .i64 m])) 20 289 true).run Tryz.prog w = .ok (.tuple #[.agg #[.int .i64 m], .bool true]) w := by
  unfold Instr.typeAssert
  simp [go_sem]
set_option maxHeartbeats 1000000 in
set_option maxRecDepth 100000 in
theorem catch_panicking (b4 b5 : Nat) (x : Int) (y : Bool) (m : Nat) (w : World) (h4 : w.heap[b4]? = some (.cells #[.int .i64 x] 3 (0, 0))) (h5 : w.heap[b5]? = some (.cells #[.bool y] 4 (0, 0))) (hne : b4 ≠ b5) :
    CallsD Tryz.prog 283 #[.pointer (some ⟨b4, 0, none⟩), .pointer (some ⟨b5, 0, none⟩)] (.panicking (foundV m)) w fun e u' w' =>
      e = .returned (.tuple #[]) ∧ u' = .panicking [{ v := .iface 289 (.agg #[.int .i64 m]), recovered := true }] ∧ w'.heap[b4]? = some (.cells #[.int .i64 m] 3 (0, 0)) ∧ w'.heap[b5]? = some (.cells #[.bool true] 4 (0, 0)) ∧ (∀ B, B ≤ b4 → B ≤ b5 → B ≤ w.heap.size → Below B w w') := by
  have c4 : w.cell? ⟨b4, 0, none⟩ = some (.int .i64 x) := (blk_cell h4 0).trans rfl
  have c5 : w.cell? ⟨b5, 0, none⟩ = some (.bool y) := (blk_cell h5 0).trans rfl
  have f4 := blk_frozen h4 0
  have f5 := blk_frozen h5 0
  refine callsD_of_wpS Tryz.func283 rfl fun c₀ cs hu => ?_
  unfold foundV at hu
  apply wpS_seq
  apply wpS_region
  simp [wpOpsS, go_sem, recoverD, hu, Tryz.ntmps283, Exit.thenS]
  refine wpS_norm (a' := { tmps := #[.pointer (some ⟨b4, 0, none⟩), .pointer (some ⟨b5, 0, none⟩), .iface 289 (.agg #[.int .i64 m]), undef, undef, .iface 289 (.agg #[.int .i64 m]), undef, undef, undef, undef, undef, undef, undef, undef, undef, undef, undef, undef], defers := [] }) (by rfl) ?_
  refine wpS_of_wp ?_
  have hta := assert_found m
  have l4 := blk_lt h4
  have l5 := blk_lt h5
  have n4 : ¬ b4 = b5 := hne
  have n5 : ¬ b5 = b4 := fun e => hne e.symm
  have m4 : ¬ b4 = w.heap.size := by omega
  have m5 : ¬ b5 = w.heap.size := by omega
  have H4 := Aside0.mk h4
  have H5 := Aside0.mk h5
  clear hne h4 h5
  go_wp2_with fail
  refine ⟨rfl, _, rfl, .tuple #[], results_none rfl _ _ _, rfl, rfl, ?_, ?_, fun B hB4 hB5 hBw => (((Below.refl B w).setCell (p := ⟨b4, 0, none⟩) hB4 _).setCell (p := ⟨b5, 0, none⟩) hB5 _).alloc (by simpa [World.setCell] using hBw) _⟩
  · rw [Below.heap_alloc _ _ _ (by simpa [World.setCell] using l4), Below.heap_setCell _ _ _ _ n4]
    exact blk_put H4.out 0 _ rfl
  · rw [Below.heap_alloc _ _ _ (by simpa [World.setCell] using l5)]
    exact blk_put ((Below.heap_setCell _ _ _ _ n5).trans H5.out) 0 _ rfl
end Go.Proofs.YtfigjpehecibeaaGreat.L
end
section
namespace Go.Proofs.YtfigjpehecibeaaGreat.L
open Go.RowKit Go.Proofs.YtfigjpehecibeaaGreatW.PrintWords Go.Proofs.YtfigjpehecibeaaGreatW.PrintLast Go.Proofs.YtfigjpehecibeaaGreatW.PrintMore Go.Proofs.YtfigjpehecibeaaGreat.Gr
set_option linter.unusedVariables false
set_option linter.unusedSimpArgs false
attribute [local go_sem] G.cell
theorem blk_new' {w : World} {o : Obj} {n : Nat} (h : n = w.heap.size) : (w.alloc o).heap[n]? = some o := by subst h; exact blk_new w o
def firstS (f : Th → Bool) (l : List Th) : Int × Bool := match firstN l.length (fun i => f (thAt l i)) with
  | some i => ((i : Int), true)
  | none => (0, false)
theorem thAt_lt {l : List Th} {i : Nat} (h : i < l.length) : thAt l i = l[i] := by unfold thAt; rw [List.getD_eq_getElem?_getD, List.getElem?_eq_getElem h]; rfl
theorem any_none {f : Th → Bool} {l : List Th} (h : l.any f = false) : firstS f l = (0, false) := by
  unfold firstS
  rw [firstN_none fun j hj => ?_]
  rw [List.any_eq_false] at h
  rw [thAt_lt hj]
  simpa using h _ (List.getElem_mem hj)
theorem outL_first {f : Th → Bool} : ∀ {n : Nat} {l : List Th}, l.any f = true → ∃ i, i < l.length ∧ outL f n l = .panicked (foundV (n + i)) ∧ f (thAt l i) = true ∧ ∀ j, j < i → f (thAt l j) = false
  | _, [], h => by simp at h
  | n, t :: r, h => by
    rw [outL]
    by_cases ht : f t = true
    · exact ⟨0, by simp, by rw [if_pos ht]; rfl, ht, fun j hj => by omega⟩
    · rw [if_neg ht]
      rw [List.any_cons] at h
      obtain ⟨i, h1, h2, h3, h4⟩ := outL_first (n := n + 1) (l := r) (by simpa [ht] using h)
      refine ⟨i + 1, by simp; omega, by rw [h2, show n + 1 + i = n + (i + 1) by omega], h3, fun j hj => ?_⟩
      match j with
      | 0 => exact Bool.eq_false_iff.2 ht
      | j + 1 => exact h4 j (by omega)
theorem any_some {f : Th → Bool} {l : List Th} (h : l.any f = true) : ∃ i : Nat, outL f 0 l = .panicked (foundV i) ∧ firstS f l = ((i : Int), true) := by
  obtain ⟨i, h1, h2, h3, h4⟩ := outL_first (n := 0) h
  refine ⟨i, by rw [h2, Nat.zero_add], ?_⟩
  unfold firstS
  rw [firstN_some h1 h3 h4]
set_option maxHeartbeats 1500000 in
set_option maxRecDepth 100000 in
theorem first_calls {W0 : World} {p1 p2 : Value} {R : Th → Prop} {f : Th → Bool} (hw : WrongOK W0 p1 p2 R f) (nm : ByteArray) (wd ln : Int) (ds : List S70) (bd : List S119) (A3 : Option Addr) (c3 : Nat) (A4 : Option Addr) (c4 : Nat) (W : World) (hp : ProgAt W ds bd A3 c3 A4 c4) (hform : bdB bd = true) (hdl : ds.length ≤ 1048576) (hbb : Ot.bulkTs bd ≤ 1048576) (hR : ∀ t ∈ things ds bd, R t) (hB : Below W0.heap.size W0 W) :
    Calls Tryz.prog 250 #[.agg #[.string nm, .int .i64 wd, .int .i64 ln, .slice A3 ds.length c3, .slice A4 bd.length c4], .func (.func 251) #[] #[p1, p2]] W fun r W' => r = .returned (.tuple #[.int .i64 (firstS f (things ds bd)).1, .bool (firstS f (things ds bd)).2]) ∧ Below W.heap.size W W' := by
  have hmf : ∀ (fn : Fn) (first cap : Array Value) (w : World), (Instr.makeFunc fn first cap).run Tryz.prog w = .ok (.func fn first cap) w := fun _ _ _ _ => rfl
  have HW := Aside0.mk hw
  have HRR := Aside0.mk hR
  clear hR
  have HP := Aside0.mk hp
  have HZ := Aside0.mk (And.intro hform (And.intro hdl hbb))
  have HB := Aside0.mk hB
  clear hw hp hform hdl hbb hB
  go_enter_defers Tryz.func250, Tryz.ntmps250
  go_upto_region 1 with (fail)
  refine wp_name ?_
  intro X hX
  have BX := Aside0.mk (show Below W.heap.size W X by rw [hX]; exact ((((Below.refl _ _).alloc (Nat.le_refl _) _).alloc (by simp) _).alloc (by simp; omega) _).alloc (by simp; omega) _)
  have k3 := Aside0.mk (show X.heap[W.heap.size + 1 + 1 + 1]? = some (.cells #[.bool false] 4 (0, 0)) by rw [hX]; exact blk_new' (by simp))
  have k2 := Aside0.mk (show X.heap[W.heap.size + 1 + 1]? = some (.cells #[.int .i64 0] 3 (0, 0)) by rw [hX, Below.heap_alloc _ _ _ (by simp)]; exact blk_new' (by simp))
  have k1 := Aside0.mk (show X.heap[W.heap.size + 1]? = some (.cells #[.func (.func 251) #[] #[p1, p2]] 272 (0, 0)) by rw [hX, Below.heap_alloc _ _ _ (by simp), Below.heap_alloc _ _ _ (by simp)]; exact blk_new' (by simp))
  have k0 := Aside0.mk (show X.heap[W.heap.size]? = some (.cells #[.string nm, .int .i64 wd, .int .i64 ln, .slice A3 ds.length c3, .slice A4 bd.length c4] 25 (0, 0)) by rw [hX, Below.heap_alloc _ _ _ (by simp; omega), Below.heap_alloc _ _ _ (by simp; omega), Below.heap_alloc _ _ _ (by simp)]; exact (blk_new _ _))
  clear hX
  have x0 : X.cell? ⟨W.heap.size, 0, none⟩ = some (.string nm) := (blk_cell k0.out 0).trans rfl
  have x1 : X.cell? ⟨W.heap.size, 1, none⟩ = some (.int .i64 wd) := (blk_cell k0.out 1).trans rfl
  have x2 : X.cell? ⟨W.heap.size, 2, none⟩ = some (.int .i64 ln) := (blk_cell k0.out 2).trans rfl
  have x3 : X.cell? ⟨W.heap.size, 3, none⟩ = some (.slice A3 ds.length c3) := (blk_cell k0.out 3).trans rfl
  have x4 : X.cell? ⟨W.heap.size, 4, none⟩ = some (.slice A4 bd.length c4) := (blk_cell k0.out 4).trans rfl
  go_wp2_with fail
  refine (all_calls (Wb := X) (bw := W.heap.size + 1) (R := R) (f := f) (see_ok (HB.out.trans (BX.out.mono HB.out.size)) k1.out HW.out) nm wd ln ds bd A3 c3 A4 c4 (HP.out.below BX.out) HZ.out.1 HZ.out.2.1 HZ.out.2.2 HRR.out X (Below.refl _ _)).mono ?_
  rintro _ W1 ⟨rfl, hB1⟩
  have l3 := Nat.lt_of_lt_of_le (blk_lt k3.out) hB1.size
  have l2 := Nat.lt_of_lt_of_le (blk_lt k2.out) hB1.size
  have j3 := Aside0.mk (blk_below k3.out hB1)
  have j2 := Aside0.mk (blk_below k2.out hB1)
  have B1 := Aside0.mk (BX.out.trans (hB1.mono BX.out.size))
  clear hB1 x0 x1 x2 x3 x4
  unfold outA
  rcases bcases ((things ds bd).any f) with ha | ha
  · obtain ⟨i, hi, hfs⟩ := any_some ha
    rw [if_pos ha, hi]
    refine leaves_cons (f := 283) (args := #[.pointer (some ⟨W.heap.size + 1 + 1, 0, none⟩), .pointer (some ⟨W.heap.size + 1 + 1 + 1, 0, none⟩)]) (by simp) (by simp [go_sem]) ?_
    refine (catch_panicking (W.heap.size + 1 + 1) (W.heap.size + 1 + 1 + 1) 0 false i W1 j2.out j3.out (by omega)).mono ?_
    rintro e u' w'' ⟨rfl, rfl, h4, h5, hb⟩
    have hc4 : w''.cell? ⟨W.heap.size + 1 + 1, 0, none⟩ = some (.int .i64 i) := (blk_cell h4 0).trans rfl
    have hc5 : w''.cell? ⟨W.heap.size + 1 + 1 + 1, 0, none⟩ = some (.bool true) := (blk_cell h5 0).trans rfl
    have hb2 := Aside0.mk (B1.out.trans (hb W.heap.size (by omega) (by omega) B1.out.size))
    simp [Leaves, settle, results, Tryz.results94, go_sem, foundV, hc4, hc5, hfs]
    exact hb2.out
  · rw [if_neg (by simp [ha])]
    have HA := Aside0.mk ha
    clear ha
    have c4 : W1.cell? ⟨W.heap.size + 1 + 1, 0, none⟩ = some (.int .i64 0) := (blk_cell j2.out 0).trans rfl
    have c5 : W1.cell? ⟨W.heap.size + 1 + 1 + 1, 0, none⟩ = some (.bool false) := (blk_cell j3.out 0).trans rfl
    have f4 := blk_frozen j2.out 0
    have f5 := blk_frozen j3.out 0
    go_wp2_with fail
    refine leaves_cons (f := 283) (args := #[.pointer (some ⟨W.heap.size + 1 + 1, 0, none⟩), .pointer (some ⟨W.heap.size + 1 + 1 + 1, 0, none⟩)]) (by simp) (by simp [go_sem]) ?_
    refine (catch_idle _ _ _).mono ?_
    rintro e u' w'' ⟨rfl, rfl, rfl⟩
    have hfs := any_none HA.out
    have hb2 : Below W.heap.size W ((W1.setCell ⟨W.heap.size + 1 + 1, 0, none⟩ (.int .i64 0)).setCell ⟨W.heap.size + 1 + 1 + 1, 0, none⟩ (.bool false)) := (B1.out.setCell (p := ⟨W.heap.size + 1 + 1, 0, none⟩) (by show W.heap.size ≤ W.heap.size + 1 + 1; omega) _).setCell (p := ⟨W.heap.size + 1 + 1 + 1, 0, none⟩) (by show W.heap.size ≤ W.heap.size + 1 + 1 + 1; omega) _
    simp [Leaves, settle, results, Tryz.results94, go_sem, c4, c5, hfs]
    exact hb2
end Go.Proofs.YtfigjpehecibeaaGreat.L
end
section
namespace Go.Proofs.YtfigjpehecibeaaGreat.L
open Go.RowKit Go.Proofs.YtfigjpehecibeaaGreatW.PrintWords Go.Proofs.YtfigjpehecibeaaGreatW.PrintLast Go.Proofs.YtfigjpehecibeaaGreatW.PrintMore Go.Proofs.YtfigjpehecibeaaGreat.Gr
set_option linter.unusedVariables false
set_option linter.unusedSimpArgs false
attribute [local go_sem] G.cell
theorem ScopeR.one {w : World} : ∀ {l l' : List ByteArray} {v : Value}, ScopeR w v l → ScopeR w v l' → l = l'
  | [], [], _, _, _ => rfl
  | [], _ :: _, v, h, ⟨b, nx, hv, _⟩ => by rw [show v = .pointer none from h] at hv; cases hv
  | _ :: _, [], v, ⟨b, nx, hv, _⟩, h => by rw [show v = .pointer none from h] at hv; cases hv
  | a :: r, a' :: r', v, ⟨b, nx, hv, hc, hr⟩, ⟨b', nx', hv', hc', hr'⟩ => by
    rw [hv] at hv'
    injection hv' with e
    injection e with e
    injection e with e
    subst e
    rw [hc] at hc'
    injection hc' with e
    injection e with e
    have e1 : Value.string a = .string a' := by have := congrArg (fun x : Array Value => x.getD 0 undef) e; simpa using this
    have e2 : nx = nx' := by have := congrArg (fun x : Array Value => x.getD 1 undef) e; simpa using this
    injection e1 with e1
    subst e1 e2
    rw [ScopeR.one hr hr']
open Classical in
noncomputable def scL (w : World) (v : Value) : List ByteArray := if h : ∃ l, ScopeR w v l then Classical.choose h else []
theorem scL_eq {w : World} {v : Value} {l : List ByteArray} (h : ScopeR w v l) : scL w v = l := by
  unfold scL
  rw [dif_pos ⟨l, h⟩]
  exact ScopeR.one (Classical.choose_spec (⟨l, h⟩ : ∃ l, ScopeR w v l)) h
set_option maxHeartbeats 1000000 in
set_option maxRecDepth 100000 in
theorem has_calls (w : World) (v : Value) (l : List ByteArray) (s : ByteArray) (b : Bool) (hsc : ScopeR w v l) (hb : hasS l s = b) : Calls Tryz.prog 195 #[v, .string s] w fun e w' => e = .returned (.bool b) ∧ Below w.heap.size w w' := by
  have HSC := Aside0.mk hsc
  have HB := Aside0.mk hb
  clear hsc hb
  go_enter Tryz.func195, Tryz.ntmps195
  go_wp2_with fail
  go_loopw [0] (fun p W => ∃ (l1 : List ByteArray) (p1 : Value), p1 = p ∧ w = W ∧ Aside0 (ScopeR w p1 l1 ∧ hasS l1 s = b)) (fun p _ => (scL w p).length)
  case atStart => exact ⟨l, v, rfl, rfl, ⟨HSC.out, HB.out⟩⟩
  case round =>
    obtain ⟨l1, p1, rfl, rfl, HK⟩ := hrel
    cases l1 with
    | nil =>
      have hp := HK.out.1
      have hb := HK.out.2
      rw [show p1 = .pointer none from hp]
      go_wp2_with fail
      go_ret
      exact ⟨ret_bool2 (by rw [← hb]; rfl), Below.refl _ _⟩
    | cons a r =>
      obtain ⟨c, nx, hv, hc, hr⟩ := HK.out.1
      have hb := HK.out.2
      have HR := Aside0.mk hr
      have HL := Aside0.mk (And.intro (scL_eq HK.out.1) (scL_eq hr))
      subst hv
      have c0 : w.cell? ⟨c, 0, none⟩ = some (.string a) := (blk_cell hc 0).trans rfl
      have c1 : w.cell? ⟨c, 1, none⟩ = some nx := (blk_cell hc 1).trans rfl
      obtain ⟨q, rfl⟩ := hr.ptr
      clear hc hr
      by_cases h : a.toList = s.toList
      · have HH := Aside0.mk hb
        clear hb
        have HE := Aside0.mk h
        have bb : (a.toList == s.toList) = true := beq_iff_eq.mpr h
        clear h
        go_wp2_with fail
        go_ret
        exact ⟨ret_bool2 (by rw [← HH.out]; simp [hasS, eqS, HE.out]), Below.refl _ _⟩
      · have HH := Aside0.mk hb
        clear hb
        have HE := Aside0.mk h
        have bb : (a.toList == s.toList) = false := beq_eq_false_iff_ne.mpr h
        clear h
        go_wp2_with fail
        refine ⟨⟨r, _, rfl, by first | rfl | trivial, ⟨HR.out, ?_⟩⟩, ?_⟩
        · rw [← HH.out]; simp [hasS, eqS, HE.out]
        · rw [HL.out.1, HL.out.2]; simp
theorem has_v {w : World} {v : Value} {lo : List ByteArray} {s : ByteArray} {b : Bool} (hsc : ScopeR w v lo.reverse) (hb : hasS lo s = b) : Calls Tryz.prog 195 #[v, .string s] w fun e w' => e = .returned (.bool b) ∧ Below w.heap.size w w' :=
  has_calls w v lo.reverse s b hsc (by unfold hasS at hb ⊢; rw [List.any_reverse]; exact hb)
def FindR (A3 : Option Addr) (ds : List S70) (s : ByteArray) (q : Option Addr) : Prop := (q.isSome = (findB ds s).isSome) ∧ ∀ i, findB ds s = some i → ∃ ad, A3 = some ad ∧ q = some (ad.add (i * 4))
set_option maxHeartbeats 1000000 in
set_option maxRecDepth 100000 in
theorem find_calls (nm : ByteArray) (wd ln : Int) (ds : List S70) (A3 : Option Addr) (c3 : Nat) (A4 : Option Addr) (n4 c4 : Nat) (s : ByteArray) (w : World) (hd : k70.C w A3 ds.length ds) (hld : ds.length ≤ c3) :
    Calls Tryz.prog 181 #[.agg #[.string nm, .int .i64 wd, .int .i64 ln, .slice A3 ds.length c3, .slice A4 n4 c4], .string s] w fun e w' => ∃ q, e = .returned (.pointer q) ∧ FindR A3 ds s q ∧ Below w.heap.size w w' := by
  have gout : ∀ {o : Obj} (g : G (w.alloc o)), Below w.heap.size w g.W := fun g => ((Below.refl _ _).alloc (Nat.le_refl _) _).trans (g.below.mono (by simp))
  have HD := Aside0.mk hd
  have hlm := hd.2.1
  clear hd
  go_enter Tryz.func181, Tryz.ntmps181
  go_upto_region 2 with (fail)
  refine wp_grown0 ?_
  intro gg
  go_wp2_with fail
  go_loopw [9] (fun i W => ∃ (k : Nat), i = .int .i64 k ∧ W = gg.W ∧ k ≤ ds.length ∧ Aside0 (∀ j, j < k → eqS (rd_T70 ds (j : Int)).f1 s = false)) (fun i _ => ds.length - (intOf i).toNat)
  case atStart => exact ⟨0, rfl, rfl, Nat.zero_le _, ⟨fun j hj => absurd hj (Nat.not_lt_zero _)⟩⟩
  case round =>
    obtain ⟨k, rfl, rfl, hk, HK⟩ := hrel
    by_cases hlt : k < ds.length
    · obtain ⟨ad, A9, c9, e1, q0, q1, q2, q3, l9, g9⟩ := at_T70 HD.out (k : Int) (Int.natCast_nonneg _) (by omega)
      cases e1
      rw [Int.toNat_natCast] at q1
      replace q1 := held_in (gout gg) q1
      clear q0 q2 q3 l9 g9
      have hk1 : (k : Int) < (ds.length : Int) := by omega
      by_cases h : (rd_T70 ds (k : Int)).f1.toList = s.toList
      · have HE := Aside0.mk h
        have bb : ((rd_T70 ds (k : Int)).f1.toList == s.toList) = true := beq_iff_eq.mpr h
        clear h
        go_wp2_with fail
        go_ret
        have e : findB ds s = some k := firstN_some (by omega) (by show eqS _ _ = true; unfold eqS; rw [HE.out]; simp) HK.out
        exact ⟨_, rfl, ⟨by rw [e]; rfl, fun i hi => by rw [e] at hi; injection hi with hi; subst hi; exact ⟨_, rfl, rfl⟩⟩, gout _⟩
      · have HE := Aside0.mk h
        have bb : ((rd_T70 ds (k : Int)).f1.toList == s.toList) = false := beq_eq_false_iff_ne.mpr h
        clear h
        go_wp2_with fail
        refine ⟨⟨k + 1, by go_num, by first | rfl | trivial, by omega, ⟨fun j hj => (Decidable.em (j = k)).elim (fun h => by rw [h]; exact decide_eq_false HE.out) (fun h => HK.out j (by omega))⟩⟩, by simp [intOf]; omega⟩
    · have hk1 : ¬ (k : Int) < (ds.length : Int) := by omega
      go_wp2_with fail
      go_ret
      have e : findB ds s = none := firstN_none fun j hj => HK.out j (by omega)
      exact ⟨_, rfl, ⟨by rw [e]; rfl, fun i hi => by rw [e] at hi; cases hi⟩, gout _⟩
theorem pow_table : (List.range 257).all (fun m => m == 0 || ((bits BinOp.and IntKind.i64 (m : Int) (wrap64 ((m : Int) - 1)) == 0) == pow2B (m : Int))) = true := by kernel_rfl
theorem pow_and {n : Int} (h1 : 1 ≤ n) (h2 : n ≤ 256) : (bits BinOp.and IntKind.i64 n (wrap64 (n - 1)) == 0) = pow2B n := by
  obtain ⟨m, rfl⟩ := Int.eq_ofNat_of_zero_le (show 0 ≤ n by omega)
  have h := List.all_eq_true.1 pow_table m (List.mem_range.2 (by omega))
  have hm : (m == 0) = false := by simp; omega
  rw [hm, Bool.false_or] at h
  exact beq_iff_eq.1 h
theorem pow_out {n : Int} (h : n < 1 ∨ 256 < n) : pow2B n = false := by
  cases hp : pow2B n with
  | false => rfl
  | true => have := pow2_le hp; omega
set_option maxHeartbeats 400000 in
set_option maxRecDepth 100000 in
theorem wpower_calls (n most : Int) (w : World) (hm : most ≤ 256) (b : Bool) (hb : b = (decide (n ≤ most) && pow2B n)) : Calls Tryz.prog 176 #[.int .i64 n, .int .i64 most] w fun e w' => e = .returned (.bool b) ∧ Below w.heap.size w w' := by
  have HB := Aside0.mk hb
  clear hb
  rcases Int.lt_or_le n 1 with h | h
  · have h1 : ¬ n ≥ 1 := by omega
    go_enter Tryz.func176, Tryz.ntmps176
    go_wp2_with fail
    go_ret
    exact ⟨ret_bool2 (by rw [HB.out, pow_out (.inl h)]; simp), Below.refl _ _⟩
  · have h1 : n ≥ 1 := h
    rcases Int.lt_or_le most n with k | k
    · have k1 : ¬ n ≤ most := by omega
      go_enter Tryz.func176, Tryz.ntmps176
      go_wp2_with fail
      go_ret
      exact ⟨ret_bool2 (by rw [HB.out]; simp; omega), Below.refl _ _⟩
    · have KK := Aside0.mk (show (bits BinOp.and IntKind.i64 n (n - 1) == 0) = pow2B n by have e := pow_and h (show n ≤ 256 by omega); rw [show wrap64 (n - 1) = n - 1 by unfold wrap64; omega] at e; exact e)
      have K2 := Aside0.mk k
      go_enter Tryz.func176, Tryz.ntmps176
      go_wp2_with fail
      go_ret
      exact ⟨ret_bool2 (by rw [HB.out, KK.out]; simp [K2.out]), Below.refl _ _⟩
set_option maxHeartbeats 400000 in
set_option maxRecDepth 100000 in
theorem wfits_calls (wd x : Int) (w : World) (h1 : 0 ≤ wd) (hx : 0 ≤ x) (b : Bool) (hb : fitsB wd x = b) : Calls Tryz.prog 187 #[.int .i64 wd, .int .u64 x] w fun e w' => e = .returned (.bool b) ∧ Below w.heap.size w w' := by
  have HB := Aside0.mk hb
  have HX := Aside0.mk hx
  clear hb hx
  by_cases h2 : wd ≥ 64
  · go_enter Tryz.func187, Tryz.ntmps187
    go_wp2_with fail
    go_ret
    exact ⟨ret_bool2 (by rw [← HB.out]; unfold fitsB; rw [decide_eq_true h2]; rfl), Below.refl _ _⟩
  · have H2 := Aside0.mk h2
    go_enter Tryz.func187, Tryz.ntmps187
    go_wp2_with fail
    go_ret
    refine ⟨ret_bool2 ?_, Below.refl _ _⟩
    rw [← HB.out]
    unfold fitsB
    rw [decide_eq_false (show ¬ 64 ≤ wd by have := H2.out; omega), Bool.false_or]
    have hp : (0 : Int) < 2 ^ wd.toNat := Int.pow_pos (by decide)
    have e : (x / 2 ^ wd.toNat = 0) ↔ x < 2 ^ wd.toNat := by
      constructor
      · intro h
        have := Int.lt_ediv_add_one_mul_self x hp
        rw [h] at this
        omega
      · intro h
        exact Int.ediv_eq_zero_of_lt HX.out h
    by_cases h : x < 2 ^ wd.toNat
    · rw [decide_eq_true h]; exact beq_iff_eq.2 (e.2 h)
    · rw [decide_eq_false h]; exact beq_eq_false_iff_ne.2 (fun k => h (e.1 k))
end Go.Proofs.YtfigjpehecibeaaGreat.L
end
section
namespace Go.Proofs.YtfigjpehecibeaaGreat.L
open Go.RowKit Go.Proofs.YtfigjpehecibeaaGreatW.PrintWords Go.Proofs.YtfigjpehecibeaaGreatW.PrintLast Go.Proofs.YtfigjpehecibeaaGreatW.PrintMore Go.Proofs.YtfigjpehecibeaaGreat.Gr
set_option linter.unusedVariables false
set_option linter.unusedSimpArgs false
attribute [local go_sem] G.cell
def RT (t : Th) : Prop := goodTh t ∧ match t with
  | .stmt s _ _ => 1 ≤ s.f0 ∧ s.f0 ≤ 5
  | _ => True
theorem ret_use {a b : ByteArray} {c d : Bool} (h1 : a = b) (h2 : c = d) : Ending.returned (.tuple #[.string a, .bool c]) = .returned (.tuple #[.string b, .bool d]) := by rw [h1, h2]
set_option maxHeartbeats 1000000 in
set_option maxRecDepth 100000 in
theorem use_calls {Wb : World} (W : World) (n : Nat) (dp sp ep : Value) (dI : Int) (lp : Value) (t : Th) (hR : RT t) (hB : Below Wb.heap.size Wb W) (ht : ThP Wb W dp sp ep dI lp t) (r1 : ByteArray) (r2 : Bool) (hr : (r1, r2) = ((useB t).getD ⟨#[]⟩, (useB t).isSome)) :
    Calls Tryz.prog 194 #[.agg #[.int .i64 n, dp, sp, ep, .int .i64 dI, lp]] W fun e w' => e = .returned (.tuple #[.string r1, .bool r2]) ∧ Below W.heap.size W w' := by
  have hb : ∀ o : Obj, Below W.heap.size W (W.alloc o) := fun o => (Below.refl _ _).alloc (Nat.le_refl _) o
  have h1 : r1 = (useB t).getD ⟨#[]⟩ := congrArg Prod.fst hr
  have h2 : r2 = (useB t).isSome := congrArg Prod.snd hr
  have HR := Aside0.mk (And.intro h1 h2)
  clear hr h1 h2
  cases t with
  | decl i =>
    obtain ⟨⟨a, rfl⟩, rfl, rfl, rfl, rfl⟩ := ht
    go_enter Tryz.func194, Tryz.ntmps194
    go_wp2_with fail
    go_ret2
    exact ⟨ret_use (by rw [HR.out.1]; rfl) (by rw [HR.out.2]; rfl), hb _⟩
  | stmt s d lo =>
    obtain ⟨rfl, ⟨a, A5, c5, A9, c9, A12, c12, A13, c13, rfl, hr, _⟩, rfl, rfl, hsc⟩ := ht
    have q0 := held_in (hB.trans ((hb (.cells #[.int .i64 n, .pointer none, .pointer (some ⟨a.block, a.off, none⟩), .pointer none, .int .i64 d, lp] 110)).mono hB.size)) (hr 0 _ rfl)
    have q1 := held_in (hB.trans ((hb (.cells #[.int .i64 n, .pointer none, .pointer (some ⟨a.block, a.off, none⟩), .pointer none, .int .i64 d, lp] 110)).mono hB.size)) (hr 1 _ rfl)
    rw [Nat.add_zero] at q0
    have hk : s.f0 = 1 ∨ s.f0 = 2 ∨ s.f0 = 5 ∨ s.f0 = 3 ∨ s.f0 = 4 := by have := hR.2.1; have := hR.2.2; omega
    clear hr hsc hR hB
    rcases hk with k | k | k | k | k
    all_goals
      rw [k] at q0
      have K := Aside0.mk k
      clear k
      go_enter Tryz.func194, Tryz.ntmps194
      go_wp2_with fail
      go_ret2
      exact ⟨ret_use (by rw [HR.out.1]; simp [useB, K.out]) (by rw [HR.out.2]; simp [useB, K.out]), hb _⟩
  | expr x lo =>
    obtain ⟨rfl, rfl, ⟨a, A, c, rfl, hr, _⟩, rfl, hsc⟩ := ht
    have q0 := held_in (hB.trans ((hb (.cells #[.int .i64 n, .pointer none, .pointer none, .pointer (some ⟨a.block, a.off, none⟩), .int .i64 0, lp] 110)).mono hB.size)) (hr 0 _ rfl)
    have q2 := held_in (hB.trans ((hb (.cells #[.int .i64 n, .pointer none, .pointer none, .pointer (some ⟨a.block, a.off, none⟩), .int .i64 0, lp] 110)).mono hB.size)) (hr 2 _ rfl)
    rw [Nat.add_zero] at q0
    clear hr hsc hR hB
    have hk : x.f0 = 2 ∨ x.f0 = 3 ∨ (¬ x.f0 = 2 ∧ ¬ x.f0 = 3) := by omega
    rcases hk with k | k | ⟨k2, k3⟩
    rotate_right
    · have b2 := bf k2
      have b3 := bf k3
      have K := Aside0.mk (And.intro k2 k3)
      clear k2 k3
      go_enter Tryz.func194, Tryz.ntmps194
      go_wp2_with fail
      go_ret2
      exact ⟨ret_use (by rw [HR.out.1]; simp [useB, K.out.1, K.out.2]) (by rw [HR.out.2]; simp [useB, K.out.1, K.out.2]), hb _⟩
    all_goals
      rw [k] at q0
      have K := Aside0.mk k
      clear k
      go_enter Tryz.func194, Tryz.ntmps194
      go_wp2_with fail
      go_ret2
      exact ⟨ret_use (by rw [HR.out.1]; simp [useB, K.out]) (by rw [HR.out.2]; simp [useB, K.out]), hb _⟩
end Go.Proofs.YtfigjpehecibeaaGreat.L
end
section
namespace Go.Proofs.YtfigjpehecibeaaGreat.L
open Go.RowKit Go.Proofs.YtfigjpehecibeaaGreatW.PrintWords Go.Proofs.YtfigjpehecibeaaGreatW.PrintLast Go.Proofs.YtfigjpehecibeaaGreatW.PrintMore Go.Proofs.YtfigjpehecibeaaGreat.Gr
set_option linter.unusedVariables false
set_option linter.unusedSimpArgs false
attribute [local go_sem] G.cell
theorem ThP.scope {Wb W : World} {dp sp ep : Value} {dI : Int} {lp : Value} {t : Th} (h : ThP Wb W dp sp ep dI lp t) : ScopeR W lp (loopsOf t).reverse := by
  cases t with
  | decl i => exact h.2.2.2.2
  | stmt s d lo => exact h.2.2.2.2
  | expr e lo => exact h.2.2.2.2
set_option maxHeartbeats 2000000 in
set_option maxRecDepth 100000 in
theorem wkind_calls {Wb : World} (nm : ByteArray) (wd ln : Int) (ds : List S70) (bd : List S119) (A3 : Option Addr) (c3 : Nat) (A4 : Option Addr) (c4 : Nat) (hp : ProgAt Wb ds bd A3 c3 A4 c4) (hd0 : ∀ d ∈ ds, 0 ≤ d.f2) (W : World) (n : Nat) (dp sp ep : Value) (dI : Int) (lp : Value) (t : Th) (hR : RT t) (hB : Below Wb.heap.size Wb W) (ht : ThP Wb W dp sp ep dI lp t)
    (s : ByteArray) (hu : useB t = some s) (hk : hasS (loopsOf t) s = true ∨ ∃ i, findB ds s = some i) (b : Bool) (hb : b = kindB ds t s) :
    Calls Tryz.prog 197 #[(.agg #[.string nm, .int .i64 wd, .int .i64 ln, .slice A3 ds.length c3, .slice A4 bd.length c4]), .agg #[.int .i64 n, dp, sp, ep, .int .i64 dI, lp], .string s] W fun e w' => e = .returned (.bool b) ∧ Below W.heap.size W w' := by
  have gout : ∀ {o o' : Obj} (g : G ((W.alloc o).alloc o')), Below W.heap.size W g.W := fun g => (((Below.refl _ _).alloc (Nat.le_refl _) _).alloc (by simp) _).trans (g.below.mono (by simp; omega))
  have HB := Aside0.mk hB
  have HP := Aside0.mk hp
  have HR := Aside0.mk hb
  have HSC := Aside0.mk ht.scope
  have HD := Aside0.mk hd0
  have hlm := hp.hd.2.1
  clear hb hp hd0
  go_enter Tryz.func197, Tryz.ntmps197
  go_upto_region 1 with (fail)
  refine wp_grown0 ?_
  intro gg
  have goutW : ∀ (g : G (gw0 gg)), Below W.heap.size W g.W := fun g => gout g
  have goutB : ∀ (g : G (gw0 gg)), Below Wb.heap.size Wb g.W := fun g => HB.out.trans ((goutW g).mono HB.out.size)
  go_wp2_with fail
  rcases bcases (hasS (loopsOf t) s) with hh | hh
  · refine (call_of (g := gg) (has_v (HSC.out.below (gout gg)) hh)).mono ?_
    rintro _ _ ⟨rfl, gg, rfl⟩
    have HK := Aside0.mk (show b = isName t by rw [HR.out]; unfold kindB; rw [if_pos hh])
    clear hh hk
    cases t with
    | decl i => simp [useB] at hu
    | stmt x d lo =>
      obtain ⟨rfl, ⟨a, A5, c5, A9, c9, A12, c12, A13, c13, rfl, hr, _⟩, rfl, rfl, hsc⟩ := ht
      clear hr hsc hR hu hB
      go_wp2_with fail
      go_ret
      exact ⟨ret_bool2 (by rw [HK.out]; rfl), goutW _⟩
    | expr x lo =>
      obtain ⟨rfl, rfl, ⟨a, A, c, rfl, hr, _⟩, rfl, hsc⟩ := ht
      have q0 : ∀ g : G (gw0 gg), g.W.cell? ⟨a.block, a.off, none⟩ = some (.int .i64 x.f0) := fun g => held_in (goutB g) (by have := hr 0 _ rfl; rwa [Nat.add_zero] at this)
      clear hr hsc hR hu hB
      by_cases k : x.f0 = 2
      · have K := Aside0.mk k
        rw [k] at q0
        clear k
        have q := q0 gg
        go_wp2_with fail
        go_ret
        exact ⟨ret_bool2 (by rw [HK.out]; simp [isName, K.out]), goutW _⟩
      · have b2 := bf k
        have K := Aside0.mk k
        clear k
        have q := q0 gg
        go_wp2_with fail
        go_ret
        exact ⟨ret_bool2 (by rw [HK.out]; simp [isName, K.out]), goutW _⟩
  · refine (call_of (g := gg) (has_v (HSC.out.below (gout gg)) hh)).mono ?_
    rintro _ _ ⟨rfl, gg, rfl⟩
    obtain ⟨i, hi⟩ : ∃ i, findB ds s = some i := hk.elim (fun h => by rw [hh] at h; cases h) id
    have hlt := findB_lt hi
    have HK := Aside0.mk (show b = kindD (rd_T70 ds (i : Int)) t by rw [HR.out]; unfold kindB; rw [if_neg (by simp [hh]), hi]; rfl)
    clear hh hk
    go_wp2_with fail
    refine (find_calls nm wd ln ds A3 c3 A4 bd.length c4 s gg.W (Kd.C_below HP.out.hd (goutB gg)) HP.out.hld).mono ?_
    rintro _ w9 ⟨q, rfl, hF, hb9⟩
    obtain ⟨ad, hA, rfl⟩ := hF.2 i hi
    obtain ⟨gg, rfl⟩ : ∃ g : G (gw0 gg), w9 = g.W := ⟨mkG (gg.below.trans (hb9.mono gg.below.size)), rfl⟩
    obtain ⟨ad2, A9d, c9d, e1, p0, p1, p2, p3, _⟩ := at_T70 HP.out.hd (i : Int) (Int.natCast_nonneg _) (by omega)
    rw [hA] at e1
    cases e1
    rw [Int.toNat_natCast] at p0 p2
    have he := addr_eta p0
    have z0 := held_in (goutB gg) p0
    have z2 := held_in (goutB gg) p2
    rw [he] at z0
    have D0 := Aside0.mk (HD.out _ (rd44_mem hlt))
    clear hb9 hF p0 p1 p2 p3 hA hi
    generalize (ad.add (i * 4)).block = bb at *
    generalize (ad.add (i * 4)).off = oo at *
    cases t with
    | decl j => simp [useB] at hu
    | stmt x d lo =>
      obtain ⟨rfl, ⟨a, A5, c5, A9, c9, A12, c12, A13, c13, rfl, hr, _⟩, rfl, rfl, hsc⟩ := ht
      have hx : x.f0 = 1 ∨ x.f0 = 2 ∨ x.f0 = 5 := by
        simp only [useB] at hu
        split at hu
        · assumption
        · cases hu
      have q0 : gg.W.cell? ⟨a.block, a.off, none⟩ = some (.int .i64 x.f0) := held_in (goutB gg) (by have := hr 0 _ rfl; rwa [Nat.add_zero] at this)
      clear hr hsc hR hu hB
      rcases hx with k | k | k
      · rw [k] at q0
        have K := Aside0.mk k
        clear k
        go_wp2_with fail
        go_ret
        exact ⟨ret_bool2 (by rw [HK.out]; simp [kindD, K.out] <;> rfl), goutW _⟩
      · rw [k] at q0
        have K := Aside0.mk k
        clear k
        by_cases h2 : (rd_T70 ds (i : Int)).f2 = 0
        · have g2 : ¬ (rd_T70 ds (i : Int)).f2 > 0 := by omega
          have H2 := Aside0.mk h2
          clear h2
          go_wp2_with fail
          go_ret
          exact ⟨ret_bool2 (by rw [HK.out]; simp [kindD, K.out, H2.out]), goutW _⟩
        · have g2 : (rd_T70 ds (i : Int)).f2 > 0 := by have := D0.out; omega
          have H2 := Aside0.mk h2
          clear h2
          go_wp2_with fail
          go_ret
          exact ⟨ret_bool2 (by rw [HK.out]; simp [kindD, K.out, H2.out] <;> rfl), goutW _⟩
      · rw [k] at q0
        have K := Aside0.mk k
        clear k
        go_wp2_with fail
        go_ret
        exact ⟨ret_bool2 (by rw [HK.out]; simp [kindD, K.out] <;> rfl), goutW _⟩
    | expr x lo =>
      obtain ⟨rfl, rfl, ⟨a, A, c, rfl, hr, _⟩, rfl, hsc⟩ := ht
      have hx : x.f0 = 2 ∨ x.f0 = 3 := by
        simp only [useB] at hu
        split at hu
        · assumption
        · cases hu
      have q0 : gg.W.cell? ⟨a.block, a.off, none⟩ = some (.int .i64 x.f0) := held_in (goutB gg) (by have := hr 0 _ rfl; rwa [Nat.add_zero] at this)
      clear hr hsc hR hu hB
      rcases hx with k | k
      · rw [k] at q0
        have K := Aside0.mk k
        clear k
        go_wp2_with fail
        go_ret
        exact ⟨ret_bool2 (by rw [HK.out]; simp [kindD, K.out] <;> rfl), goutW _⟩
      · rw [k] at q0
        have K := Aside0.mk k
        clear k
        by_cases h2 : (rd_T70 ds (i : Int)).f2 = 0
        · have g2 : ¬ (rd_T70 ds (i : Int)).f2 > 0 := by omega
          have H2 := Aside0.mk h2
          clear h2
          go_wp2_with fail
          go_ret
          exact ⟨ret_bool2 (by rw [HK.out]; simp [kindD, K.out, H2.out]), goutW _⟩
        · have g2 : (rd_T70 ds (i : Int)).f2 > 0 := by have := D0.out; omega
          have H2 := Aside0.mk h2
          clear h2
          go_wp2_with fail
          go_ret
          exact ⟨ret_bool2 (by rw [HK.out]; simp [kindD, K.out, H2.out]), goutW _⟩
end Go.Proofs.YtfigjpehecibeaaGreat.L
end
section
namespace Go.Proofs.YtfigjpehecibeaaGreat.L
open Go.RowKit Go.Proofs.YtfigjpehecibeaaGreatW.PrintWords Go.Proofs.YtfigjpehecibeaaGreatW.PrintLast Go.Proofs.YtfigjpehecibeaaGreatW.PrintMore Go.Proofs.YtfigjpehecibeaaGreat.Gr
set_option linter.unusedVariables false
set_option linter.unusedSimpArgs false
attribute [local go_sem] G.cell
def qOf (A3 : Option Addr) (ds : List S70) (s : ByteArray) : Option Addr := match findB ds s, A3 with
  | some i, some ad => some (ad.add (i * 4))
  | _, _ => none
theorem find_q (nm : ByteArray) (wd ln : Int) (ds : List S70) (A3 : Option Addr) (c3 : Nat) (A4 : Option Addr) (n4 c4 : Nat) (s : ByteArray) (w : World) (hd : k70.C w A3 ds.length ds) (hld : ds.length ≤ c3) :
    Calls Tryz.prog 181 #[.agg #[.string nm, .int .i64 wd, .int .i64 ln, .slice A3 ds.length c3, .slice A4 n4 c4], .string s] w fun e w' => e = .returned (.pointer (qOf A3 ds s)) ∧ Below w.heap.size w w' := by
  refine (find_calls nm wd ln ds A3 c3 A4 n4 c4 s w hd hld).mono ?_
  rintro _ w' ⟨q, rfl, ⟨h1, h2⟩, hb⟩
  refine ⟨?_, hb⟩
  unfold qOf
  cases hf : findB ds s with
  | none =>
    rw [hf] at h1
    cases q with
    | none => rfl
    | some a => simp at h1
  | some i =>
    obtain ⟨ad, rfl, rfl⟩ := h2 i hf
    rfl
theorem qOf_none {A3 : Option Addr} {ds : List S70} {s : ByteArray} (h : (findB ds s).isNone = true) : qOf A3 ds s = none := by
  unfold qOf
  cases hf : findB ds s with
  | none => rfl
  | some i => rw [hf] at h; cases h
theorem qOf_some {w : World} {A3 : Option Addr} {ds : List S70} {s : ByteArray} (hd : k70.C w A3 ds.length ds) (h : (findB ds s).isNone = false) : ∃ a, qOf A3 ds s = some a := by
  unfold qOf
  cases hf : findB ds s with
  | none => rw [hf] at h; cases h
  | some i =>
    have hlt := findB_lt hf
    obtain ⟨ad, _, _, e, _⟩ := at_T70 hd (0 : Int) (Int.le_refl _) (by omega)
    subst e
    exact ⟨_, rfl⟩
def RW (t : Th) : Prop := RT t ∧ match t with
  | .expr e _ => weightE e ≤ 8388608
  | _ => True
set_option maxHeartbeats 1500000 in
set_option maxRecDepth 100000 in
theorem cl10_calls {Wb : World} (nm : ByteArray) (wd ln : Int) (ds : List S70) (bd : List S119) (A3 : Option Addr) (c3 : Nat) (A4 : Option Addr) (c4 : Nat) (W : World) (n : Nat) (dp sp ep : Value) (dI : Int) (lp : Value) (t : Th) (hR : RW t) (hB : Below Wb.heap.size Wb W) (ht : ThP Wb W dp sp ep dI lp t) (b : Bool) (hb : b = bad10 t) :
    Calls Tryz.prog 191 #[.agg #[.string nm, .int .i64 wd, .int .i64 ln, .slice A3 ds.length c3, .slice A4 bd.length c4], .agg #[.int .i64 n, dp, sp, ep, .int .i64 dI, lp]] W fun e w' => e = .returned (.bool b) ∧ Below W.heap.size W w' := by
  have gout : ∀ {o o' : Obj} (g : G ((W.alloc o).alloc o')), Below W.heap.size W g.W := fun g => (((Below.refl _ _).alloc (Nat.le_refl _) _).alloc (by simp) _).trans (g.below.mono (by simp; omega))
  have HB := Aside0.mk hB
  have HR := Aside0.mk hb
  clear hb hB
  go_enter Tryz.func191, Tryz.ntmps191
  go_upto_region 1 with (fail)
  refine wp_grown0 ?_
  intro gg
  have goutW : ∀ (g : G (gw0 gg)), Below W.heap.size W g.W := fun g => gout g
  have goutB : ∀ (g : G (gw0 gg)), Below Wb.heap.size Wb g.W := fun g => HB.out.trans ((goutW g).mono HB.out.size)
  cases t with
  | decl i =>
    obtain ⟨⟨a, rfl⟩, rfl, rfl, rfl, rfl⟩ := ht
    clear hR
    go_wp2_with fail
    go_ret
    exact ⟨ret_bool2 (by rw [HR.out]; rfl), goutW _⟩
  | stmt s d lo =>
    obtain ⟨rfl, ⟨a, A5, c5, A9, c9, A12, c12, A13, c13, rfl, hr, _⟩, rfl, rfl, hsc⟩ := ht
    clear hr hsc hR
    by_cases h : 64 < d
    · have h' : (64 : Int) < (d : Int) := by omega
      have H := Aside0.mk h
      clear h
      go_wp2_with fail
      go_ret
      exact ⟨ret_bool2 (by rw [HR.out]; simp [bad10, H.out]), goutW _⟩
    · have h' : ¬ (64 : Int) < (d : Int) := by omega
      have H := Aside0.mk h
      clear h
      go_wp2_with fail
      go_ret
      exact ⟨ret_bool2 (by rw [HR.out]; have := H.out; simp [bad10]; omega), goutW _⟩
  | expr x lo =>
    obtain ⟨rfl, rfl, ⟨a, A, c, rfl, hr, hl, hC⟩, rfl, hsc⟩ := ht
    have HC := Aside0.mk (And.intro hl hC)
    have q0 : gg.W.cell? ⟨a.block, a.off, none⟩ = some (.int .i64 x.f0) := held_in (goutB gg) (by have := hr 0 _ rfl; rwa [Nat.add_zero] at this)
    have q1 : gg.W.cell? ⟨a.block, a.off + 1, none⟩ = some (.int .u64 x.f1) := held_in (goutB gg) (hr 1 _ rfl)
    have q2 : gg.W.cell? ⟨a.block, a.off + 2, none⟩ = some (.string x.f2) := held_in (goutB gg) (hr 2 _ rfl)
    have q3 : gg.W.cell? ⟨a.block, a.off + 3, none⟩ = some (.slice A x.f3.length c) := held_in (goutB gg) (hr 3 _ rfl)
    have HW := Aside0.mk (show deepE x ≤ 8388608 from Nat.le_trans (deep_weight x) hR.2)
    clear hr hsc hl hC hR
    go_wp2_with fail
    refine (call_of (g := gg) (depth_calls _ x (Nat.le_refl _) (by have := HW.out; omega) A c gg.W (Kd.C_below HC.out.2 (goutB gg)) HC.out.1)).mono ?_
    rintro _ _ ⟨rfl, gg, rfl⟩
    by_cases h : 64 < deepE x
    · have h' : (64 : Int) < (deepE x : Int) := by omega
      have H := Aside0.mk h
      clear h
      go_wp2_with fail
      go_ret
      exact ⟨ret_bool2 (by rw [HR.out]; simp [bad10, H.out]), goutW _⟩
    · have h' : ¬ (64 : Int) < (deepE x : Int) := by omega
      have H := Aside0.mk h
      clear h
      go_wp2_with fail
      go_ret
      exact ⟨ret_bool2 (by rw [HR.out]; have := H.out; simp [bad10]; omega), goutW _⟩
set_option maxHeartbeats 1500000 in
set_option maxRecDepth 100000 in
theorem cl11_calls {Wb : World} (nm : ByteArray) (wd ln : Int) (ds : List S70) (bd : List S119) (A3 : Option Addr) (c3 : Nat) (A4 : Option Addr) (c4 : Nat) (hp : ProgAt Wb ds bd A3 c3 A4 c4) (W : World) (n : Nat) (dp sp ep : Value) (dI : Int) (lp : Value) (t : Th) (hR : RT t) (hB : Below Wb.heap.size Wb W) (ht : ThP Wb W dp sp ep dI lp t) (b : Bool) (hb : b = bad11 ds t) :
    Calls Tryz.prog 193 #[.agg #[.string nm, .int .i64 wd, .int .i64 ln, .slice A3 ds.length c3, .slice A4 bd.length c4], .agg #[.int .i64 n, dp, sp, ep, .int .i64 dI, lp]] W fun e w' => e = .returned (.bool b) ∧ Below W.heap.size W w' := by
  have gout : ∀ {o o' : Obj} (g : G ((W.alloc o).alloc o')), Below W.heap.size W g.W := fun g => (((Below.refl _ _).alloc (Nat.le_refl _) _).alloc (by simp) _).trans (g.below.mono (by simp; omega))
  have HB := Aside0.mk hB
  have HP := Aside0.mk hp
  have HR := Aside0.mk hb
  have HT := Aside0.mk ht
  have HRT := Aside0.mk hR
  clear hb hB hp ht hR
  go_enter Tryz.func193, Tryz.ntmps193
  go_upto_region 1 with (fail)
  refine wp_grown0 ?_
  intro gg
  have goutW : ∀ (g : G (gw0 gg)), Below W.heap.size W g.W := fun g => gout g
  have goutB : ∀ (g : G (gw0 gg)), Below Wb.heap.size Wb g.W := fun g => HB.out.trans ((goutW g).mono HB.out.size)
  obtain ⟨r1, h1⟩ : ∃ r, r = (useB t).getD ⟨#[]⟩ := ⟨_, rfl⟩
  obtain ⟨r2, h2⟩ : ∃ r, r = (useB t).isSome := ⟨_, rfl⟩
  have HU := Aside0.mk (show (r1, r2) = ((useB t).getD ⟨#[]⟩, (useB t).isSome) by rw [h1, h2])
  have HV := Aside0.mk (And.intro h1 h2)
  clear h1 h2
  go_wp2_with fail
  refine (call_of (g := gg) (use_calls gg.W n dp sp ep dI lp t HRT.out (goutB gg) (HT.out.below (goutW gg)) r1 r2 HU.out)).mono ?_
  rintro _ _ ⟨rfl, gg, rfl⟩
  cases hu : useB t with
  | none =>
    have e2 : r2 = false := by rw [HV.out.2, hu]; rfl
    have HE := Aside0.mk (show b = false by rw [HR.out]; unfold bad11; rw [hu])
    clear hu
    subst e2
    go_wp2_with fail
    go_ret
    exact ⟨ret_bool2 HE.out.symm, goutW _⟩
  | some s =>
    have e2 : r2 = true := by rw [HV.out.2, hu]; rfl
    have e1 : r1 = s := by rw [HV.out.1, hu]; rfl
    have HE := Aside0.mk (show b = (!hasS (loopsOf t) s && (findB ds s).isNone) by rw [HR.out]; unfold bad11; rw [hu])
    clear hu
    subst e2 e1
    go_wp2_with fail
    rcases bcases (hasS (loopsOf t) r1) with hh | hh
    · refine (call_of (g := gg) (has_v (HT.out.scope.below (goutW gg)) hh)).mono ?_
      rintro _ _ ⟨rfl, gg, rfl⟩
      have HH := Aside0.mk hh
      clear hh
      go_wp2_with fail
      go_ret
      exact ⟨ret_bool2 (by rw [HE.out, HH.out]; rfl), goutW _⟩
    · refine (call_of (g := gg) (has_v (HT.out.scope.below (goutW gg)) hh)).mono ?_
      rintro _ _ ⟨rfl, gg, rfl⟩
      have HH := Aside0.mk hh
      clear hh
      go_wp2_with fail
      refine (call_of (g := gg) (find_q nm wd ln ds A3 c3 A4 bd.length c4 r1 gg.W (Kd.C_below HP.out.hd (goutB gg)) HP.out.hld)).mono ?_
      rintro _ _ ⟨rfl, gg, rfl⟩
      rcases bcases ((findB ds r1).isNone) with hn | hn
      · rw [qOf_none hn]
        have HN := Aside0.mk hn
        clear hn
        go_wp2_with fail
        go_ret
        exact ⟨ret_bool2 (by rw [HE.out, HH.out, HN.out]; rfl), goutW _⟩
      · obtain ⟨qa, hq⟩ := qOf_some HP.out.hd hn
        rw [hq]
        have HN := Aside0.mk hn
        clear hn hq
        go_wp2_with fail
        go_ret
        exact ⟨ret_bool2 (by rw [HE.out, HH.out, HN.out]; rfl), goutW _⟩
end Go.Proofs.YtfigjpehecibeaaGreat.L
end
section
namespace Go.Proofs.YtfigjpehecibeaaGreat.L
open Go.RowKit Go.Proofs.YtfigjpehecibeaaGreatW.PrintWords Go.Proofs.YtfigjpehecibeaaGreatW.PrintLast Go.Proofs.YtfigjpehecibeaaGreatW.PrintMore Go.Proofs.YtfigjpehecibeaaGreat.Gr
set_option linter.unusedVariables false
set_option linter.unusedSimpArgs false
attribute [local go_sem] G.cell
def ClauseT (K : FuncId) (W0 : World) (nm : ByteArray) (wd ln : Int) (ds : List S70) (bd : List S119) (A3 : Option Addr) (c3 : Nat) (A4 : Option Addr) (c4 : Nat) (R : Th → Prop) (f : Th → Bool) : Prop :=
  ∀ (Wb W : World) (n : Nat) (dp sp ep : Value) (dI : Int) (lp : Value) (t : Th), R t → Below W0.heap.size W0 Wb → Below Wb.heap.size Wb W → ThP Wb W dp sp ep dI lp t →
  Calls Tryz.prog K #[.agg #[.string nm, .int .i64 wd, .int .i64 ln, .slice A3 ds.length c3, .slice A4 bd.length c4], .agg #[.int .i64 n, dp, sp, ep, .int .i64 dI, lp]] W fun e w' => e = .returned (.bool (f t)) ∧ Below W.heap.size W w'
set_option maxHeartbeats 1000000 in
set_option maxRecDepth 100000 in
theorem wrong61_ok {W0 : World} {b1 b2 : Nat} {nm : ByteArray} {wd ln : Int} {ds : List S70} {bd : List S119} {A3 : Option Addr} {c3 : Nat} {A4 : Option Addr} {c4 : Nat} {R : Th → Prop} {f : Th → Bool} (hc : ClauseT 191 W0 nm wd ln ds bd A3 c3 A4 c4 R f)
    (h1 : W0.heap[b1]? = some (.cells #[.func (.func 191) #[] #[]] 240 (0, 0))) (h2 : W0.heap[b2]? = some (.cells #[.string nm, .int .i64 wd, .int .i64 ln, .slice A3 ds.length c3, .slice A4 bd.length c4] 25 (0, 0))) : WrongOK W0 (.pointer (some ⟨b1, 0, none⟩)) (.pointer (some ⟨b2, 0, none⟩)) R f := by
  intro Wb W n dp sp ep dI lp t hR h0 hB ht
  have gout : ∀ {o : Obj} (g : G (W.alloc o)), Below W.heap.size W g.W := fun g => ((Below.refl _ _).alloc (Nat.le_refl _) _).trans (g.below.mono (by simp))
  have hBW := h0.trans (hB.mono h0.size)
  have k1 := (hBW.block b1 (blk_lt h1)).trans h1
  have k2 := (hBW.block b2 (blk_lt h2)).trans h2
  have l1 := blk_lt k1
  have l2 := blk_lt k2
  have y0 : W.cell? ⟨b1, 0, none⟩ = some (.func (.func 191) #[] #[]) := (blk_cell k1 0).trans rfl
  have z0 : W.cell? ⟨b2, 0, none⟩ = some (.string nm) := (blk_cell k2 0).trans rfl
  have z1 : W.cell? ⟨b2, 1, none⟩ = some (.int .i64 wd) := (blk_cell k2 1).trans rfl
  have z2 : W.cell? ⟨b2, 2, none⟩ = some (.int .i64 ln) := (blk_cell k2 2).trans rfl
  have z3 : W.cell? ⟨b2, 3, none⟩ = some (.slice A3 ds.length c3) := (blk_cell k2 3).trans rfl
  have z4 : W.cell? ⟨b2, 4, none⟩ = some (.slice A4 bd.length c4) := (blk_cell k2 4).trans rfl
  have HX := Aside0.mk (And.intro hR (And.intro h0 (And.intro hB ht)))
  have HC := Aside0.mk hc
  clear hR h0 hB ht hc k1 k2 h1 h2 hBW
  go_enter Tryz.func251, Tryz.ntmps251
  go_upto_region 1 with (fail)
  refine wp_grown0 ?_
  intro gg
  go_wp2_with fail
  refine (call_of (g := gg) (HC.out Wb gg.W n dp sp ep dI lp t HX.out.1 HX.out.2.1 (HX.out.2.2.1.trans ((gout gg).mono HX.out.2.2.1.size)) (HX.out.2.2.2.below (gout gg)))).mono ?_
  rintro _ _ ⟨rfl, gg, rfl⟩
  go_wp2_with fail
  go_ret
  exact ⟨rfl, gout _⟩
set_option maxHeartbeats 1000000 in
set_option maxRecDepth 100000 in
theorem wrong63_ok {W0 : World} {b1 b2 : Nat} {nm : ByteArray} {wd ln : Int} {ds : List S70} {bd : List S119} {A3 : Option Addr} {c3 : Nat} {A4 : Option Addr} {c4 : Nat} {R : Th → Prop} {f : Th → Bool} (hc : ClauseT 193 W0 nm wd ln ds bd A3 c3 A4 c4 R f)
    (h1 : W0.heap[b1]? = some (.cells #[.func (.func 193) #[] #[]] 240 (0, 0))) (h2 : W0.heap[b2]? = some (.cells #[.string nm, .int .i64 wd, .int .i64 ln, .slice A3 ds.length c3, .slice A4 bd.length c4] 25 (0, 0))) : WrongOK W0 (.pointer (some ⟨b1, 0, none⟩)) (.pointer (some ⟨b2, 0, none⟩)) R f := by
  intro Wb W n dp sp ep dI lp t hR h0 hB ht
  have gout : ∀ {o : Obj} (g : G (W.alloc o)), Below W.heap.size W g.W := fun g => ((Below.refl _ _).alloc (Nat.le_refl _) _).trans (g.below.mono (by simp))
  have hBW := h0.trans (hB.mono h0.size)
  have k1 := (hBW.block b1 (blk_lt h1)).trans h1
  have k2 := (hBW.block b2 (blk_lt h2)).trans h2
  have l1 := blk_lt k1
  have l2 := blk_lt k2
  have y0 : W.cell? ⟨b1, 0, none⟩ = some (.func (.func 193) #[] #[]) := (blk_cell k1 0).trans rfl
  have z0 : W.cell? ⟨b2, 0, none⟩ = some (.string nm) := (blk_cell k2 0).trans rfl
  have z1 : W.cell? ⟨b2, 1, none⟩ = some (.int .i64 wd) := (blk_cell k2 1).trans rfl
  have z2 : W.cell? ⟨b2, 2, none⟩ = some (.int .i64 ln) := (blk_cell k2 2).trans rfl
  have z3 : W.cell? ⟨b2, 3, none⟩ = some (.slice A3 ds.length c3) := (blk_cell k2 3).trans rfl
  have z4 : W.cell? ⟨b2, 4, none⟩ = some (.slice A4 bd.length c4) := (blk_cell k2 4).trans rfl
  have HX := Aside0.mk (And.intro hR (And.intro h0 (And.intro hB ht)))
  have HC := Aside0.mk hc
  clear hR h0 hB ht hc k1 k2 h1 h2 hBW
  go_enter Tryz.func251, Tryz.ntmps251
  go_upto_region 1 with (fail)
  refine wp_grown0 ?_
  intro gg
  go_wp2_with fail
  refine (call_of (g := gg) (HC.out Wb gg.W n dp sp ep dI lp t HX.out.1 HX.out.2.1 (HX.out.2.2.1.trans ((gout gg).mono HX.out.2.2.1.size)) (HX.out.2.2.2.below (gout gg)))).mono ?_
  rintro _ _ ⟨rfl, gg, rfl⟩
  go_wp2_with fail
  go_ret
  exact ⟨rfl, gout _⟩
set_option maxHeartbeats 1000000 in
set_option maxRecDepth 100000 in
theorem wrong66_ok {W0 : World} {b1 b2 : Nat} {nm : ByteArray} {wd ln : Int} {ds : List S70} {bd : List S119} {A3 : Option Addr} {c3 : Nat} {A4 : Option Addr} {c4 : Nat} {R : Th → Prop} {f : Th → Bool} (hc : ClauseT 196 W0 nm wd ln ds bd A3 c3 A4 c4 R f)
    (h1 : W0.heap[b1]? = some (.cells #[.func (.func 196) #[] #[]] 240 (0, 0))) (h2 : W0.heap[b2]? = some (.cells #[.string nm, .int .i64 wd, .int .i64 ln, .slice A3 ds.length c3, .slice A4 bd.length c4] 25 (0, 0))) : WrongOK W0 (.pointer (some ⟨b1, 0, none⟩)) (.pointer (some ⟨b2, 0, none⟩)) R f := by
  intro Wb W n dp sp ep dI lp t hR h0 hB ht
  have gout : ∀ {o : Obj} (g : G (W.alloc o)), Below W.heap.size W g.W := fun g => ((Below.refl _ _).alloc (Nat.le_refl _) _).trans (g.below.mono (by simp))
  have hBW := h0.trans (hB.mono h0.size)
  have k1 := (hBW.block b1 (blk_lt h1)).trans h1
  have k2 := (hBW.block b2 (blk_lt h2)).trans h2
  have l1 := blk_lt k1
  have l2 := blk_lt k2
  have y0 : W.cell? ⟨b1, 0, none⟩ = some (.func (.func 196) #[] #[]) := (blk_cell k1 0).trans rfl
  have z0 : W.cell? ⟨b2, 0, none⟩ = some (.string nm) := (blk_cell k2 0).trans rfl
  have z1 : W.cell? ⟨b2, 1, none⟩ = some (.int .i64 wd) := (blk_cell k2 1).trans rfl
  have z2 : W.cell? ⟨b2, 2, none⟩ = some (.int .i64 ln) := (blk_cell k2 2).trans rfl
  have z3 : W.cell? ⟨b2, 3, none⟩ = some (.slice A3 ds.length c3) := (blk_cell k2 3).trans rfl
  have z4 : W.cell? ⟨b2, 4, none⟩ = some (.slice A4 bd.length c4) := (blk_cell k2 4).trans rfl
  have HX := Aside0.mk (And.intro hR (And.intro h0 (And.intro hB ht)))
  have HC := Aside0.mk hc
  clear hR h0 hB ht hc k1 k2 h1 h2 hBW
  go_enter Tryz.func251, Tryz.ntmps251
  go_upto_region 1 with (fail)
  refine wp_grown0 ?_
  intro gg
  go_wp2_with fail
  refine (call_of (g := gg) (HC.out Wb gg.W n dp sp ep dI lp t HX.out.1 HX.out.2.1 (HX.out.2.2.1.trans ((gout gg).mono HX.out.2.2.1.size)) (HX.out.2.2.2.below (gout gg)))).mono ?_
  rintro _ _ ⟨rfl, gg, rfl⟩
  go_wp2_with fail
  go_ret
  exact ⟨rfl, gout _⟩
set_option maxHeartbeats 1000000 in
set_option maxRecDepth 100000 in
theorem wrong68_ok {W0 : World} {b1 b2 : Nat} {nm : ByteArray} {wd ln : Int} {ds : List S70} {bd : List S119} {A3 : Option Addr} {c3 : Nat} {A4 : Option Addr} {c4 : Nat} {R : Th → Prop} {f : Th → Bool} (hc : ClauseT 198 W0 nm wd ln ds bd A3 c3 A4 c4 R f)
    (h1 : W0.heap[b1]? = some (.cells #[.func (.func 198) #[] #[]] 240 (0, 0))) (h2 : W0.heap[b2]? = some (.cells #[.string nm, .int .i64 wd, .int .i64 ln, .slice A3 ds.length c3, .slice A4 bd.length c4] 25 (0, 0))) : WrongOK W0 (.pointer (some ⟨b1, 0, none⟩)) (.pointer (some ⟨b2, 0, none⟩)) R f := by
  intro Wb W n dp sp ep dI lp t hR h0 hB ht
  have gout : ∀ {o : Obj} (g : G (W.alloc o)), Below W.heap.size W g.W := fun g => ((Below.refl _ _).alloc (Nat.le_refl _) _).trans (g.below.mono (by simp))
  have hBW := h0.trans (hB.mono h0.size)
  have k1 := (hBW.block b1 (blk_lt h1)).trans h1
  have k2 := (hBW.block b2 (blk_lt h2)).trans h2
  have l1 := blk_lt k1
  have l2 := blk_lt k2
  have y0 : W.cell? ⟨b1, 0, none⟩ = some (.func (.func 198) #[] #[]) := (blk_cell k1 0).trans rfl
  have z0 : W.cell? ⟨b2, 0, none⟩ = some (.string nm) := (blk_cell k2 0).trans rfl
  have z1 : W.cell? ⟨b2, 1, none⟩ = some (.int .i64 wd) := (blk_cell k2 1).trans rfl
  have z2 : W.cell? ⟨b2, 2, none⟩ = some (.int .i64 ln) := (blk_cell k2 2).trans rfl
  have z3 : W.cell? ⟨b2, 3, none⟩ = some (.slice A3 ds.length c3) := (blk_cell k2 3).trans rfl
  have z4 : W.cell? ⟨b2, 4, none⟩ = some (.slice A4 bd.length c4) := (blk_cell k2 4).trans rfl
  have HX := Aside0.mk (And.intro hR (And.intro h0 (And.intro hB ht)))
  have HC := Aside0.mk hc
  clear hR h0 hB ht hc k1 k2 h1 h2 hBW
  go_enter Tryz.func251, Tryz.ntmps251
  go_upto_region 1 with (fail)
  refine wp_grown0 ?_
  intro gg
  go_wp2_with fail
  refine (call_of (g := gg) (HC.out Wb gg.W n dp sp ep dI lp t HX.out.1 HX.out.2.1 (HX.out.2.2.1.trans ((gout gg).mono HX.out.2.2.1.size)) (HX.out.2.2.2.below (gout gg)))).mono ?_
  rintro _ _ ⟨rfl, gg, rfl⟩
  go_wp2_with fail
  go_ret
  exact ⟨rfl, gout _⟩
set_option maxHeartbeats 1000000 in
set_option maxRecDepth 100000 in
theorem wrong69_ok {W0 : World} {b1 b2 : Nat} {nm : ByteArray} {wd ln : Int} {ds : List S70} {bd : List S119} {A3 : Option Addr} {c3 : Nat} {A4 : Option Addr} {c4 : Nat} {R : Th → Prop} {f : Th → Bool} (hc : ClauseT 199 W0 nm wd ln ds bd A3 c3 A4 c4 R f)
    (h1 : W0.heap[b1]? = some (.cells #[.func (.func 199) #[] #[]] 240 (0, 0))) (h2 : W0.heap[b2]? = some (.cells #[.string nm, .int .i64 wd, .int .i64 ln, .slice A3 ds.length c3, .slice A4 bd.length c4] 25 (0, 0))) : WrongOK W0 (.pointer (some ⟨b1, 0, none⟩)) (.pointer (some ⟨b2, 0, none⟩)) R f := by
  intro Wb W n dp sp ep dI lp t hR h0 hB ht
  have gout : ∀ {o : Obj} (g : G (W.alloc o)), Below W.heap.size W g.W := fun g => ((Below.refl _ _).alloc (Nat.le_refl _) _).trans (g.below.mono (by simp))
  have hBW := h0.trans (hB.mono h0.size)
  have k1 := (hBW.block b1 (blk_lt h1)).trans h1
  have k2 := (hBW.block b2 (blk_lt h2)).trans h2
  have l1 := blk_lt k1
  have l2 := blk_lt k2
  have y0 : W.cell? ⟨b1, 0, none⟩ = some (.func (.func 199) #[] #[]) := (blk_cell k1 0).trans rfl
  have z0 : W.cell? ⟨b2, 0, none⟩ = some (.string nm) := (blk_cell k2 0).trans rfl
  have z1 : W.cell? ⟨b2, 1, none⟩ = some (.int .i64 wd) := (blk_cell k2 1).trans rfl
  have z2 : W.cell? ⟨b2, 2, none⟩ = some (.int .i64 ln) := (blk_cell k2 2).trans rfl
  have z3 : W.cell? ⟨b2, 3, none⟩ = some (.slice A3 ds.length c3) := (blk_cell k2 3).trans rfl
  have z4 : W.cell? ⟨b2, 4, none⟩ = some (.slice A4 bd.length c4) := (blk_cell k2 4).trans rfl
  have HX := Aside0.mk (And.intro hR (And.intro h0 (And.intro hB ht)))
  have HC := Aside0.mk hc
  clear hR h0 hB ht hc k1 k2 h1 h2 hBW
  go_enter Tryz.func251, Tryz.ntmps251
  go_upto_region 1 with (fail)
  refine wp_grown0 ?_
  intro gg
  go_wp2_with fail
  refine (call_of (g := gg) (HC.out Wb gg.W n dp sp ep dI lp t HX.out.1 HX.out.2.1 (HX.out.2.2.1.trans ((gout gg).mono HX.out.2.2.1.size)) (HX.out.2.2.2.below (gout gg)))).mono ?_
  rintro _ _ ⟨rfl, gg, rfl⟩
  go_wp2_with fail
  go_ret
  exact ⟨rfl, gout _⟩
set_option maxHeartbeats 1000000 in
set_option maxRecDepth 100000 in
theorem wrong70_ok {W0 : World} {b1 b2 : Nat} {nm : ByteArray} {wd ln : Int} {ds : List S70} {bd : List S119} {A3 : Option Addr} {c3 : Nat} {A4 : Option Addr} {c4 : Nat} {R : Th → Prop} {f : Th → Bool} (hc : ClauseT 200 W0 nm wd ln ds bd A3 c3 A4 c4 R f)
    (h1 : W0.heap[b1]? = some (.cells #[.func (.func 200) #[] #[]] 240 (0, 0))) (h2 : W0.heap[b2]? = some (.cells #[.string nm, .int .i64 wd, .int .i64 ln, .slice A3 ds.length c3, .slice A4 bd.length c4] 25 (0, 0))) : WrongOK W0 (.pointer (some ⟨b1, 0, none⟩)) (.pointer (some ⟨b2, 0, none⟩)) R f := by
  intro Wb W n dp sp ep dI lp t hR h0 hB ht
  have gout : ∀ {o : Obj} (g : G (W.alloc o)), Below W.heap.size W g.W := fun g => ((Below.refl _ _).alloc (Nat.le_refl _) _).trans (g.below.mono (by simp))
  have hBW := h0.trans (hB.mono h0.size)
  have k1 := (hBW.block b1 (blk_lt h1)).trans h1
  have k2 := (hBW.block b2 (blk_lt h2)).trans h2
  have l1 := blk_lt k1
  have l2 := blk_lt k2
  have y0 : W.cell? ⟨b1, 0, none⟩ = some (.func (.func 200) #[] #[]) := (blk_cell k1 0).trans rfl
  have z0 : W.cell? ⟨b2, 0, none⟩ = some (.string nm) := (blk_cell k2 0).trans rfl
  have z1 : W.cell? ⟨b2, 1, none⟩ = some (.int .i64 wd) := (blk_cell k2 1).trans rfl
  have z2 : W.cell? ⟨b2, 2, none⟩ = some (.int .i64 ln) := (blk_cell k2 2).trans rfl
  have z3 : W.cell? ⟨b2, 3, none⟩ = some (.slice A3 ds.length c3) := (blk_cell k2 3).trans rfl
  have z4 : W.cell? ⟨b2, 4, none⟩ = some (.slice A4 bd.length c4) := (blk_cell k2 4).trans rfl
  have HX := Aside0.mk (And.intro hR (And.intro h0 (And.intro hB ht)))
  have HC := Aside0.mk hc
  clear hR h0 hB ht hc k1 k2 h1 h2 hBW
  go_enter Tryz.func251, Tryz.ntmps251
  go_upto_region 1 with (fail)
  refine wp_grown0 ?_
  intro gg
  go_wp2_with fail
  refine (call_of (g := gg) (HC.out Wb gg.W n dp sp ep dI lp t HX.out.1 HX.out.2.1 (HX.out.2.2.1.trans ((gout gg).mono HX.out.2.2.1.size)) (HX.out.2.2.2.below (gout gg)))).mono ?_
  rintro _ _ ⟨rfl, gg, rfl⟩
  go_wp2_with fail
  go_ret
  exact ⟨rfl, gout _⟩
end Go.Proofs.YtfigjpehecibeaaGreat.L
end
