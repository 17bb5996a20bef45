/- Texts joined by a program of mine: Un Uo Up Ue Uf Ug Uh. -/
import Derived.Test.YtfigjpehecibeaaGreatZd15
import Derived.Test.YtfigjpehecibeaaGreatZd17
section
namespace Go.Proofs.YtfigjpehecibeaaGreat.L
open Go.RowKit Go.Proofs.YtfigjpehecibeaaGreatW.PrintWords Go.Proofs.YtfigjpehecibeaaGreatW.PrintLast Go.Proofs.YtfigjpehecibeaaGreatW.PrintMore Go.Proofs.YtfigjpehecibeaaGreat.Gr
set_option linter.unusedVariables false
set_option linter.unusedSimpArgs false
attribute [local go_sem] G.cell
theorem find_qi {A3 : Option Addr} {ds : List S70} {s : ByteArray} {q : Option Addr} (hq : qOf A3 ds s = q) {k : Nat} (hk : k = ds.length) (nm : ByteArray) (wd ln : Int) (c3 : Nat) (A4 : Option Addr) (n4 c4 : Nat) (w : World) (hd : k70.C w A3 ds.length ds) (hld : ds.length ≤ c3) :
    Calls Tryz.prog 181 #[.agg #[.string nm, .int .i64 wd, .int .i64 ln, .slice A3 k c3, .slice A4 n4 c4], .string s] w fun e w' => e = .returned (.pointer q) ∧ Below w.heap.size w w' := by
  subst hk
  exact hq ▸ find_q nm wd ln ds A3 c3 A4 n4 c4 s w hd hld
theorem twice_find (ds : List S70) (i : Nat) (hi : i < ds.length) : twiceB ds i = (findB (ds.take i) (rd_T70 ds (i : Int)).f1).isSome := by
  unfold twiceB findB
  have hl : (ds.take i).length = i := by simp; omega
  rw [hl]
  congr 1
  refine firstN_congr fun j hj => ?_
  have e : rd_T70 (ds.take i) (j : Int) = rd_T70 ds (j : Int) := by
    unfold rd_T70
    rw [Int.toNat_natCast, List.getD_eq_getElem?_getD, List.getD_eq_getElem?_getD, List.getElem?_take, if_pos hj]
  rw [e]
set_option maxHeartbeats 1000000 in
set_option maxRecDepth 100000 in
theorem c50_calls (nm : ByteArray) (wd ln : Int) (ds : List S70) (bd : List S119) (A3 : Option Addr) (c3 : Nat) (A4 : Option Addr) (c4 : Nat) (W : World) (hd : k70.C W A3 ds.length ds) (hld : ds.length ≤ c3) (i : Nat) (hi : i < ds.length) (b : Bool) (hb : b = twiceB ds i) :
    Calls Tryz.prog 180 #[.agg #[.string nm, .int .i64 wd, .int .i64 ln, .slice A3 ds.length c3, .slice A4 bd.length c4], .int .i64 (i : Int)] W fun e w' => e = .returned (.bool b) ∧ Below W.heap.size W w' := by
  have gout : ∀ {o : Obj} (g : G (W.alloc o)), Below W.heap.size W g.W := fun g => ((Below.refl _ _).alloc (Nat.le_refl _) _).trans (g.below.mono (by simp))
  have HR := Aside0.mk (hb.trans (twice_find ds i hi))
  clear hb
  have hlm := hd.2.1
  have HTK := Aside0.mk (Kd.C_take hd (show i ≤ ds.length by omega))
  have HLC := Aside0.mk (show (ds.take i).length ≤ c3 by simp; omega)
  obtain ⟨adr, A9d, c9d, e1, q0, q1, q2, q3, l9, g9⟩ := at_T70 hd (i : Int) (Int.natCast_nonneg _) (by omega)
  cases e1
  rw [Int.toNat_natCast] at q1
  have hi1 : (i : Int) < (ds.length : Int) := by omega
  have hi2 : (i : Int) ≤ (c3 : Int) := by omega
  have HD := Aside0.mk hd
  have hsl : ∀ X : World, (Instr.slice 22 (.slice (some adr) ds.length c3) none (some (.int .i64 (i : Int))) none).run Tryz.prog X = .ok (.slice (some adr) i c3) X := by
    intro X
    go_simp
    try simp
  clear hd q0 q2 q3 l9 g9
  go_enter Tryz.func180, Tryz.ntmps180
  go_upto_region 1 with (fail)
  refine wp_grown0 ?_
  intro gg
  have r1 : ∀ g : G (gw0 gg), g.W.cell? ⟨(adr.add (i * 4)).block, (adr.add (i * 4)).off + 1, none⟩ = some (.string (rd_T70 ds (i : Int)).f1) := fun g => held_in (gout g) q1
  clear q1
  rcases bcases ((findB (ds.take i) (rd_T70 ds (i : Int)).f1).isNone) with hn | hn
  · have hq := qOf_none (A3 := some adr) hn
    have HN := Aside0.mk (show (findB (ds.take i) (rd_T70 ds (i : Int)).f1).isSome = false by cases hf : findB (ds.take i) (rd_T70 ds (i : Int)).f1 with | none => rfl | some j => rw [hf] at hn; cases hn)
    have HQ := Aside0.mk hq
    clear hn hq
    refine wp_region_of (g := gg) (by kernel_rfl) (by kernel_rfl) ?_
    repeat (go_big_quiet_step (fail))
    go_big_quiet_step (first | (go_at_call 181; exact call_of (find_qi HQ.out (by simp; omega) _ _ _ _ _ _ _ _ (Kd.C_below HTK.out (gout _)) HLC.out)))
    repeat (go_big_quiet_step (fail))
    refine wpQuiet_nil ?_
    rintro _ ⟨gg, rfl⟩
    go_wp2_with fail
    go_ret
    exact ⟨ret_bool2 (by rw [HR.out, HN.out]), gout _⟩
  · obtain ⟨qa, hq⟩ := qOf_some HTK.out hn
    have HN := Aside0.mk (show (findB (ds.take i) (rd_T70 ds (i : Int)).f1).isSome = true by cases hf : findB (ds.take i) (rd_T70 ds (i : Int)).f1 with | none => rw [hf] at hn; cases hn | some j => rfl)
    have HQ := Aside0.mk hq
    clear hn hq
    refine wp_region_of (g := gg) (by kernel_rfl) (by kernel_rfl) ?_
    repeat (go_big_quiet_step (fail))
    go_big_quiet_step (first | (go_at_call 181; exact call_of (find_qi HQ.out (by simp; omega) _ _ _ _ _ _ _ _ (Kd.C_below HTK.out (gout _)) HLC.out)))
    repeat (go_big_quiet_step (fail))
    refine wpQuiet_nil ?_
    rintro _ ⟨gg, rfl⟩
    go_wp2_with fail
    go_ret
    exact ⟨ret_bool2 (by rw [HR.out, HN.out]), gout _⟩
end Go.Proofs.YtfigjpehecibeaaGreat.L
end
section
namespace Go.Proofs.YtfigjpehecibeaaGreat.L
open Go.RowKit Go.Proofs.YtfigjpehecibeaaGreatW.PrintWords Go.Proofs.YtfigjpehecibeaaGreatW.PrintLast Go.Proofs.YtfigjpehecibeaaGreatW.PrintMore Go.Proofs.YtfigjpehecibeaaGreat.Gr
set_option linter.unusedVariables false
set_option linter.unusedSimpArgs false
attribute [local go_sem] G.cell
set_option maxHeartbeats 1000000 in
set_option maxRecDepth 100000 in
theorem neg_calls (wd x : Int) (bp : Nat) (W : World) (hc : W.cell? ⟨bp, 1, none⟩ = some (.int .i64 wd)) (h0 : 0 ≤ wd) (hx : 0 ≤ x) (b : Bool) (hb : fitsB wd x = b) :
    Calls Tryz.prog 186 #[.int .u64 x, .pointer (some ⟨bp, 0, none⟩)] W fun e w' => e = .returned (.bool (!b)) ∧ Below W.heap.size W w' := by
  go_enter Tryz.func186, Tryz.ntmps186
  go_upto_region 1 with (fail)
  refine wp_grown0 ?_
  intro gg
  have hc2 := held_in gg.below hc
  clear hc
  go_wp2_with fail
  refine (call_of (g := gg) (wfits_calls wd x gg.W h0 hx b hb)).mono ?_
  rintro _ _ ⟨rfl, gg, rfl⟩
  go_wp2_with fail
  go_ret
  exact ⟨rfl, gg.below⟩
def indexS (wd : Int) (l : List Int) : Int := match firstN l.length (fun j => !fitsB wd (l.getD j 0)) with
  | some i => (i : Int)
  | none => -1
set_option maxHeartbeats 1000000 in
set_option maxRecDepth 100000 in
theorem index_calls (wd : Int) (l : List Int) (bp : Nat) (A : Option Addr) (c : Nat) (W : World) (hc : W.cell? ⟨bp, 1, none⟩ = some (.int .i64 wd)) (h0 : 0 ≤ wd) (hx : ∀ v ∈ l, 0 ≤ v) (hl : (Kd.int .u64).C W A l.length l) (hlc : l.length ≤ c) (r : Int) (hr : r = indexS wd l) :
    Calls Tryz.prog 248 #[.slice A l.length c, .func (.func 186) #[] #[.pointer (some ⟨bp, 0, none⟩)]] W fun e w' => e = .returned (.int .i64 r) ∧ Below W.heap.size W w' := by
  have HC := Aside0.mk hc
  have HX := Aside0.mk hx
  have HL := Aside0.mk hl
  have HR := Aside0.mk hr
  have hlm := hl.2.1
  clear hc hx hl hr
  go_enter Tryz.func248, Tryz.ntmps248
  go_wp2_with fail
  go_loopw [8] (fun i X => ∃ (k : Nat) (g : G W), i = .int .i64 k ∧ X = g.W ∧ k ≤ l.length ∧ Aside0 (∀ j, j < k → (!fitsB wd (l.getD j 0)) = false)) (fun i _ => l.length - (intOf i).toNat)
  case atStart => exact ⟨0, ⟨W, Below.refl _ _⟩, rfl, rfl, Nat.zero_le _, ⟨fun j hj => absurd hj (Nat.not_lt_zero _)⟩⟩
  case round =>
    obtain ⟨k, gx, rfl, rfl, hk, HK⟩ := hrel
    by_cases hlt : k < l.length
    · obtain ⟨adv, cs9, eA, ec9, eK9, hc9⟩ := Kd.C_get (d := Kd.int .u64) HL.out (0 : Int) (k : Int) (Int.natCast_nonneg _) (by omega)
      cases eA
      have eK9' : cs9 = [.int .u64 (l.getD (k : Int).toNat 0)] := eK9
      subst eK9'
      have s0 := hc9 0 _ rfl
      rw [Int.toNat_natCast] at s0
      clear hc9 eK9 ec9
      replace s0 := held_in gx.below s0
      have t0 : gx.W.cell? (adv.add (k * 1 + 0)) = some (.int .u64 (l.getD k 0)) := s0
      simp only [Nat.mul_one, Nat.add_zero] at t0
      clear s0
      have hk1 : (k : Int) < (l.length : Int) := by omega
      have hv := Aside0.mk (HX.out _ (getD_mem hlt))
      obtain ⟨z, hz⟩ : ∃ z, l.getD k 0 = z := ⟨_, rfl⟩
      rw [hz] at hv t0
      have HZ := Aside0.mk hz
      clear hz
      go_wp2_with fail
      rcases bcases (fitsB wd z) with hf | hf
      · have HF := Aside0.mk hf
        clear hf
        refine (call_of (g := gx) (neg_calls wd z bp gx.W (held_in gx.below HC.out) h0 hv.out true HF.out)).mono ?_
        rintro _ _ ⟨rfl, g2, rfl⟩
        go_wp2_with fail
        exact ⟨⟨k + 1, g2, by go_num, rfl, by omega, ⟨fun j hj => (Decidable.em (j = k)).elim (fun h => by rw [h, HZ.out, HF.out]; rfl) (fun h => HK.out j (by omega))⟩⟩, by simp [intOf]; omega⟩
      · have HF := Aside0.mk hf
        clear hf
        refine (call_of (g := gx) (neg_calls wd z bp gx.W (held_in gx.below HC.out) h0 hv.out false HF.out)).mono ?_
        rintro _ _ ⟨rfl, g2, rfl⟩
        go_wp2_with fail
        go_ret
        have e : r = (k : Int) := by rw [HR.out]; unfold indexS; rw [firstN_some hlt (by rw [HZ.out, HF.out]; rfl) HK.out]
        exact ⟨by rw [e]; rfl, g2.below⟩
    · have hk1 : ¬ (k : Int) < (l.length : Int) := by omega
      go_wp2_with fail
      go_ret
      have e : r = -1 := by rw [HR.out]; unfold indexS; rw [firstN_none fun j hj => HK.out j (by omega)]
      exact ⟨by rw [e]; rfl, gx.below⟩
theorem index_any (wd : Int) (l : List Int) : decide (0 ≤ indexS wd l) = l.any (fun v => !fitsB wd v) := by
  unfold indexS
  rcases firstN_cases l.length (fun j => !fitsB wd (l.getD j 0)) with ⟨h1, h2⟩ | ⟨i, h0, h1, h2, _⟩
  · rw [h1]
    symm
    rw [show decide ((0 : Int) ≤ -1) = false by decide, List.any_eq_false]
    intro v hv
    obtain ⟨j, hj, rfl⟩ := List.getElem_of_mem hv
    have := h2 j hj
    simp only [List.getD_eq_getElem?_getD, List.getElem?_eq_getElem hj] at this
    simpa using this
  · rw [h1]
    symm
    rw [show decide ((0 : Int) ≤ (i : Int)) = true by simp, List.any_eq_true]
    exact ⟨_, getD_mem h0, h2⟩
set_option maxHeartbeats 1000000 in
set_option maxRecDepth 100000 in
theorem contains_calls (wd : Int) (l : List Int) (bp : Nat) (A : Option Addr) (c : Nat) (W : World) (hc : W.cell? ⟨bp, 1, none⟩ = some (.int .i64 wd)) (h0 : 0 ≤ wd) (hx : ∀ v ∈ l, 0 ≤ v) (hl : (Kd.int .u64).C W A l.length l) (hlc : l.length ≤ c) (b : Bool) (hb : b = l.any (fun v => !fitsB wd v)) :
    Calls Tryz.prog 185 #[.slice A l.length c, .func (.func 186) #[] #[.pointer (some ⟨bp, 0, none⟩)]] W fun e w' => e = .returned (.bool b) ∧ Below W.heap.size W w' := by
  have H := Aside0.mk (And.intro hc (And.intro hx hl))
  obtain ⟨r, hr⟩ : ∃ r, r = indexS wd l := ⟨_, rfl⟩
  have HR := Aside0.mk hr
  have HB := Aside0.mk (hb.trans (index_any wd l).symm)
  clear hc hx hl hr hb
  go_enter Tryz.func185, Tryz.ntmps185
  go_upto_region 1 with (fail)
  refine wp_grown0 ?_
  intro gg
  go_wp2_with fail
  refine (call_of (g := gg) (index_calls wd l bp A c gg.W (held_in gg.below H.out.1) h0 H.out.2.1 (Kd.C_below H.out.2.2 gg.below) hlc r HR.out)).mono ?_
  rintro _ _ ⟨rfl, gg, rfl⟩
  rcases Int.lt_or_le r 0 with hn | hn
  · have hn' : ¬ r ≥ 0 := by omega
    have HN := Aside0.mk hn
    go_wp2_with fail
    go_ret
    exact ⟨ret_bool2 (by rw [HB.out, ← HR.out] <;> (symm; exact decide_eq_false (by have := HN.out; omega))), gg.below⟩
  · have hn' : r ≥ 0 := hn
    have HN := Aside0.mk hn
    go_wp2_with fail
    go_ret
    exact ⟨ret_bool2 (by rw [HB.out, ← HR.out] <;> (symm; exact decide_eq_true HN.out)), gg.below⟩
set_option maxHeartbeats 1000000 in
set_option maxRecDepth 100000 in
theorem c54_calls (nm : ByteArray) (wd ln : Int) (ds : List S70) (bd : List S119) (A3 : Option Addr) (c3 : Nat) (A4 : Option Addr) (c4 : Nat) (W : World) (hd : k70.C W A3 ds.length ds) (h0 : 0 ≤ wd) (hv : ∀ d ∈ ds, ∀ v ∈ d.f3, 0 ≤ v) (i : Nat) (hi : i < ds.length) (b : Bool) (hb : b = rangeBad wd ds i) :
    Calls Tryz.prog 184 #[.agg #[.string nm, .int .i64 wd, .int .i64 ln, .slice A3 ds.length c3, .slice A4 bd.length c4], .int .i64 (i : Int)] W fun e w' => e = .returned (.bool b) ∧ Below W.heap.size W w' := by
  have hmf : ∀ (fn : Fn) (first cap : Array Value) (w : World), (Instr.makeFunc fn first cap).run Tryz.prog w = .ok (.func fn first cap) w := fun _ _ _ _ => rfl
  have gout : ∀ {o : Obj} (g : G (W.alloc o)), Below W.heap.size W g.W := fun g => ((Below.refl _ _).alloc (Nat.le_refl _) _).trans (g.below.mono (by simp))
  have HR := Aside0.mk hb
  have HV := Aside0.mk (hv _ (rd44_mem hi))
  have hlm := hd.2.1
  obtain ⟨adr, A9d, c9d, e1, q0, q1, q2, q3, l9, g9⟩ := at_T70 hd (i : Int) (Int.natCast_nonneg _) (by omega)
  cases e1
  rw [Int.toNat_natCast] at q3
  have hi1 : (i : Int) < (ds.length : Int) := by omega
  have VAL := Aside0.mk (And.intro l9 g9)
  clear hb hv hd q0 q1 q2 l9 g9
  go_enter Tryz.func184, Tryz.ntmps184
  go_upto_region 1 with (fail)
  refine wp_grown0 ?_
  intro gg
  have r3 := held_in (gout gg) q3
  have x1 := Aside0.mk (show gg.W.cell? ⟨W.heap.size, 1, none⟩ = some (.int .i64 wd) from (gg.below.cell (p := ⟨W.heap.size, 1, none⟩) (by simp)).trans (by simp [go_sem]))
  clear q3
  go_wp2_with fail
  refine (call_of (g := gg) (contains_calls wd (rd_T70 ds (i : Int)).f3 W.heap.size A9d c9d gg.W x1.out h0 HV.out (Kd.C_below VAL.out.2 (gout gg)) VAL.out.1 b HR.out)).mono ?_
  rintro _ _ ⟨rfl, gg, rfl⟩
  go_wp2_with fail
  go_ret
  exact ⟨rfl, gout _⟩
end Go.Proofs.YtfigjpehecibeaaGreat.L
end
section
namespace Go.Proofs.YtfigjpehecibeaaGreat.L
open Go.RowKit Go.Proofs.YtfigjpehecibeaaGreatW.PrintWords Go.Proofs.YtfigjpehecibeaaGreatW.PrintLast Go.Proofs.YtfigjpehecibeaaGreatW.PrintMore Go.Proofs.YtfigjpehecibeaaGreat.Gr
set_option linter.unusedVariables false
set_option linter.unusedSimpArgs false
theorem below_allocs : ∀ (L : List Obj) (W : World), Below W.heap.size W (L.foldl World.alloc W)
  | [], W => Below.refl _ _
  | o :: r, W => ((Below.refl _ _).alloc (Nat.le_refl _) o).trans ((below_allocs r (W.alloc o)).mono (by simp))
theorem heap_allocs : ∀ (L : List Obj) (W : World) (i : Nat), i < L.length → (L.foldl World.alloc W).heap[W.heap.size + i]? = L[i]?
  | [], _, _, h => by simp at h
  | o :: r, W, 0, _ => by
    rw [List.foldl_cons, Nat.add_zero, (below_allocs r (W.alloc o)).block W.heap.size (by simp)]
    exact blk_new W o
  | o :: r, W, i + 1, h => by
    have e := heap_allocs r (W.alloc o) i (by simpa using h)
    have hs : (W.alloc o).heap.size = W.heap.size + 1 := by simp
    rw [hs] at e
    rw [List.foldl_cons, show W.heap.size + (i + 1) = W.heap.size + 1 + i by omega]
    simpa using e
def clL (b : Nat) : List Obj := [.cells #[.func (.func 75) #[] #[]] 33, .cells #[.func (.func 175) #[] #[]] 33, .cells #[.func (.func 177) #[] #[]] 33, .cells #[.func (.func 178) #[] #[]] 33, .cells #[.func (.func 180) #[] #[]] 55, .cells #[.func (.func 182) #[] #[]] 55, .cells #[.func (.func 183) #[] #[]] 55, .cells #[.func (.func 184) #[] #[]] 55, .cells #[.func (.func 188) #[] #[]] 33, .cells #[.func (.func 191) #[] #[]] 240, .cells #[.func (.func 193) #[] #[]] 240, .cells #[.func (.func 196) #[] #[]] 240, .cells #[.func (.func 198) #[] #[]] 240, .cells #[.func (.func 199) #[] #[]] 240, .cells #[.func (.func 200) #[] #[]] 240, .cells #[.func (.func 201) #[] #[]] 33, .cells #[.int .i64 1, .func (.func 246) #[] #[.pointer (some ⟨b + 0, 0, none⟩)], .int .i64 5, .func (.func 246) #[] #[.pointer (some ⟨b + 1, 0, none⟩)], .int .i64 163, .func (.func 246) #[] #[.pointer (some ⟨b + 2, 0, none⟩)], .int .i64 4, .func (.func 246) #[] #[.pointer (some ⟨b + 3, 0, none⟩)], .int .i64 160, .func (.func 247) #[] #[.pointer (some ⟨b + 4, 0, none⟩)], .int .i64 163, .func (.func 247) #[] #[.pointer (some ⟨b + 5, 0, none⟩)], .int .i64 164, .func (.func 247) #[] #[.pointer (some ⟨b + 6, 0, none⟩)], .int .i64 165, .func (.func 247) #[] #[.pointer (some ⟨b + 7, 0, none⟩)], .int .i64 169, .func (.func 246) #[] #[.pointer (some ⟨b + 8, 0, none⟩)], .int .i64 152, .func (.func 249) #[] #[.pointer (some ⟨b + 9, 0, none⟩)], .int .i64 161, .func (.func 249) #[] #[.pointer (some ⟨b + 10, 0, none⟩)], .int .i64 162, .func (.func 249) #[] #[.pointer (some ⟨b + 11, 0, none⟩)], .int .i64 165, .func (.func 249) #[] #[.pointer (some ⟨b + 12, 0, none⟩)], .int .i64 166, .func (.func 249) #[] #[.pointer (some ⟨b + 13, 0, none⟩)], .int .i64 167, .func (.func 249) #[] #[.pointer (some ⟨b + 14, 0, none⟩)], .int .i64 168, .func (.func 246) #[] #[.pointer (some ⟨b + 15, 0, none⟩)]] 190]
set_option maxHeartbeats 1000000 in
set_option maxRecDepth 100000 in
theorem clauses_calls (W : World) : Calls Tryz.prog 128 #[] W fun e w' => e = .returned (.slice (some ⟨W.heap.size + 16, 0, none⟩) 16 16) ∧ w' = (clL W.heap.size).foldl World.alloc W := by
  have hmf : ∀ (fn : Fn) (first cap : Array Value) (w : World), (Instr.makeFunc fn first cap).run Tryz.prog w = .ok (.func fn first cap) w := fun _ _ _ _ => rfl
  go_enter Tryz.func128, Tryz.ntmps128
  go_wp2
  go_ret
  exact ⟨rfl, rfl⟩
end Go.Proofs.YtfigjpehecibeaaGreat.L
end
section
namespace Go.Proofs.YtfigjpehecibeaaGreat.L
open Go.RowKit Go.Proofs.YtfigjpehecibeaaGreatW.PrintWords Go.Proofs.YtfigjpehecibeaaGreatW.PrintLast Go.Proofs.YtfigjpehecibeaaGreatW.PrintMore Go.Proofs.YtfigjpehecibeaaGreat.Gr
set_option linter.unusedVariables false
set_option linter.unusedSimpArgs false
attribute [local go_sem] G.cell
set_option maxHeartbeats 1500000 in
set_option maxRecDepth 100000 in
theorem cl12_calls {Wb : World} (nm : ByteArray) (wd ln : Int) (ds : List S70) (bd : List S119) (A3 : Option Addr) (c3 : Nat) (A4 : Option Addr) (c4 : Nat) (hp : ProgAt Wb ds bd A3 c3 A4 c4) (hd0 : ∀ d ∈ ds, 0 ≤ d.f2) (W : World) (n : Nat) (dp sp ep : Value) (dI : Int) (lp : Value) (t : Th) (hR : RT t) (hB : Below Wb.heap.size Wb W) (ht : ThP Wb W dp sp ep dI lp t) (h11 : bad11 ds t = false) (b : Bool) (hb : b = bad12 ds t) :
    Calls Tryz.prog 196 #[.agg #[.string nm, .int .i64 wd, .int .i64 ln, .slice A3 ds.length c3, .slice A4 bd.length c4], .agg #[.int .i64 n, dp, sp, ep, .int .i64 dI, lp]] W fun e w' => e = .returned (.bool b) ∧ Below W.heap.size W w' := by
  have gout : ∀ {o o' : Obj} (g : G ((W.alloc o).alloc o')), Below W.heap.size W g.W := fun g => (((Below.refl _ _).alloc (Nat.le_refl _) _).alloc (by simp) _).trans (g.below.mono (by simp; omega))
  have HB := Aside0.mk hB
  have HP := Aside0.mk hp
  have HR := Aside0.mk hb
  have HT := Aside0.mk ht
  have HRT := Aside0.mk hR
  clear hb hB hp hR
  go_enter Tryz.func196, Tryz.ntmps196
  go_upto_region 1 with (fail)
  refine wp_grown0 ?_
  intro gg
  have goutW : ∀ (g : G (gw0 gg)), Below W.heap.size W g.W := fun g => gout g
  have goutB : ∀ (g : G (gw0 gg)), Below Wb.heap.size Wb g.W := fun g => HB.out.trans ((goutW g).mono HB.out.size)
  clear ht
  obtain ⟨r1, h1⟩ : ∃ r, r = (useB t).getD ⟨#[]⟩ := ⟨_, rfl⟩
  obtain ⟨r2, h2⟩ : ∃ r, r = (useB t).isSome := ⟨_, rfl⟩
  have HU := Aside0.mk (show (r1, r2) = ((useB t).getD ⟨#[]⟩, (useB t).isSome) by rw [h1, h2])
  have HV := Aside0.mk (And.intro h1 h2)
  have H11 := Aside0.mk h11
  have HD := Aside0.mk hd0
  clear h1 h2 h11 hd0
  go_wp2_with fail
  refine (call_of (g := gg) (use_calls gg.W n dp sp ep dI lp t HRT.out (goutB gg) (HT.out.below (goutW gg)) r1 r2 HU.out)).mono ?_
  rintro _ _ ⟨rfl, gg, rfl⟩
  cases hu : useB t with
  | none =>
    have e2 : r2 = false := by rw [HV.out.2, hu]; rfl
    have HE := Aside0.mk (show b = false by rw [HR.out]; unfold bad12; rw [hu])
    clear hu
    subst e2
    go_wp2_with fail
    go_ret
    exact ⟨ret_bool2 HE.out.symm, goutW _⟩
  | some s =>
    have e2 : r2 = true := by rw [HV.out.2, hu]; rfl
    have e1 : r1 = s := by rw [HV.out.1, hu]; rfl
    have HE := Aside0.mk (show b = !kindB ds t s by rw [HR.out]; unfold bad12; rw [hu])
    have HUS := Aside0.mk hu
    have KN := Aside0.mk (show hasS (loopsOf t) s = true ∨ ∃ i, findB ds s = some i by
        have h := H11.out
        unfold bad11 at h
        rw [hu] at h
        simp only [Bool.and_eq_false_iff, Bool.not_eq_false'] at h
        rcases h with h | h
        · exact .inl h
        · cases hf : findB ds s with
          | none => rw [hf] at h; cases h
          | some i => exact .inr ⟨i, rfl⟩)
    clear hu
    subst e2 e1
    obtain ⟨kb, hkb⟩ : ∃ z, z = kindB ds t r1 := ⟨_, rfl⟩
    have HKB := Aside0.mk hkb
    clear hkb
    go_wp2_with fail
    refine (call_of (g := gg) (wkind_calls nm wd ln ds bd A3 c3 A4 c4 HP.out HD.out gg.W n dp sp ep dI lp t HRT.out (goutB gg) (HT.out.below (goutW gg)) r1 HUS.out KN.out kb HKB.out)).mono ?_
    rintro _ _ ⟨rfl, gg, rfl⟩
    go_wp2_with fail
    go_ret
    exact ⟨ret_bool2 (by rw [HE.out, ← HKB.out]), goutW _⟩
end Go.Proofs.YtfigjpehecibeaaGreat.L
end
section
namespace Go.Proofs.YtfigjpehecibeaaGreat.L
open Go.RowKit Go.Proofs.YtfigjpehecibeaaGreatW.PrintWords Go.Proofs.YtfigjpehecibeaaGreatW.PrintLast Go.Proofs.YtfigjpehecibeaaGreatW.PrintMore Go.Proofs.YtfigjpehecibeaaGreat.Gr
set_option linter.unusedVariables false
set_option linter.unusedSimpArgs false
attribute [local go_sem] G.cell
set_option maxHeartbeats 1500000 in
set_option maxRecDepth 100000 in
theorem cl13_calls {Wb : World} (nm : ByteArray) (wd ln : Int) (ds : List S70) (bd : List S119) (A3 : Option Addr) (c3 : Nat) (A4 : Option Addr) (c4 : Nat) (hp : ProgAt Wb ds bd A3 c3 A4 c4) (hw : 0 ≤ wd) (W : World) (n : Nat) (dp sp ep : Value) (dI : Int) (lp : Value) (t : Th) (hR : RT t) (hB : Below Wb.heap.size Wb W) (ht : ThP Wb W dp sp ep dI lp t) (b : Bool) (hb : b = bad13 wd t) :
    Calls Tryz.prog 198 #[.agg #[.string nm, .int .i64 wd, .int .i64 ln, .slice A3 ds.length c3, .slice A4 bd.length c4], .agg #[.int .i64 n, dp, sp, ep, .int .i64 dI, lp]] W fun e w' => e = .returned (.bool b) ∧ Below W.heap.size W w' := by
  have gout : ∀ {o o' : Obj} (g : G ((W.alloc o).alloc o')), Below W.heap.size W g.W := fun g => (((Below.refl _ _).alloc (Nat.le_refl _) _).alloc (by simp) _).trans (g.below.mono (by simp; omega))
  have HB := Aside0.mk hB
  have HP := Aside0.mk hp
  have HR := Aside0.mk hb
  have HT := Aside0.mk ht
  have HRT := Aside0.mk hR
  clear hb hB hp hR
  go_enter Tryz.func198, Tryz.ntmps198
  go_upto_region 1 with (fail)
  refine wp_grown0 ?_
  intro gg
  have goutW : ∀ (g : G (gw0 gg)), Below W.heap.size W g.W := fun g => gout g
  have goutB : ∀ (g : G (gw0 gg)), Below Wb.heap.size Wb g.W := fun g => HB.out.trans ((goutW g).mono HB.out.size)
  cases t with
  | decl i =>
    obtain ⟨⟨a, rfl⟩, rfl, rfl, rfl, rfl⟩ := ht
    go_upto_region 1 with (fail)
    refine wp_region_of (g := gg) (by kernel_rfl) (by kernel_rfl) ?_
    repeat (go_big_quiet_step (fail))
    refine wpQuiet_nil ?_
    rintro _ ⟨gg, rfl⟩
    go_wp2_with fail
    go_ret
    exact ⟨ret_bool2 (by rw [HR.out]; rfl), goutW _⟩
  | stmt s d lo =>
    obtain ⟨rfl, ⟨a, A5, c5, A9, c9, A12, c12, A13, c13, rfl, hr, _⟩, rfl, rfl, hsc⟩ := ht
    clear hr hsc
    go_upto_region 1 with (fail)
    refine wp_region_of (g := gg) (by kernel_rfl) (by kernel_rfl) ?_
    repeat (go_big_quiet_step (fail))
    refine wpQuiet_nil ?_
    rintro _ ⟨gg, rfl⟩
    go_wp2_with fail
    go_ret
    exact ⟨ret_bool2 (by rw [HR.out]; rfl), goutW _⟩
  | expr x lo =>
    obtain ⟨rfl, rfl, ⟨a, A, c, rfl, hr, _⟩, rfl, hsc⟩ := ht
    have q0 : ∀ g : G (gw0 gg), g.W.cell? ⟨a.block, a.off, none⟩ = some (.int .i64 x.f0) := fun g => held_in (goutB g) (by have := hr 0 _ rfl; rwa [Nat.add_zero] at this)
    have q1 : ∀ g : G (gw0 gg), g.W.cell? ⟨a.block, a.off + 1, none⟩ = some (.int .u64 x.f1) := fun g => held_in (goutB g) (hr 1 _ rfl)
    clear hr hsc
    by_cases k : x.f0 = 1
    · have K := Aside0.mk k
      rw [k] at q0
      clear k
      rcases bcases (fitsB wd x.f1) with hf | hf
      · have HF := Aside0.mk hf
        clear hf
        go_upto_region 1 with (fail)
        refine wp_region_of (g := gg) (by kernel_rfl) (by kernel_rfl) ?_
        repeat (go_big_quiet_step (fail))
        go_big_quiet_step (first | (go_at_call 187; exact call_of (wfits_calls wd x.f1 _ hw HRT.out.1 _ HF.out)))
        repeat (go_big_quiet_step (fail))
        refine wpQuiet_nil ?_
        rintro _ ⟨gg, rfl⟩
        go_wp2_with fail
        go_ret
        exact ⟨ret_bool2 (by rw [HR.out]; simp [bad13, K.out, HF.out]), goutW _⟩
      · have HF := Aside0.mk hf
        clear hf
        go_upto_region 1 with (fail)
        refine wp_region_of (g := gg) (by kernel_rfl) (by kernel_rfl) ?_
        repeat (go_big_quiet_step (fail))
        go_big_quiet_step (first | (go_at_call 187; exact call_of (wfits_calls wd x.f1 _ hw HRT.out.1 _ HF.out)))
        repeat (go_big_quiet_step (fail))
        refine wpQuiet_nil ?_
        rintro _ ⟨gg, rfl⟩
        go_wp2_with fail
        go_ret
        exact ⟨ret_bool2 (by rw [HR.out]; simp [bad13, K.out, HF.out]), goutW _⟩
    · have K := Aside0.mk k
      have b1 := bf k
      clear k
      go_upto_region 1 with (fail)
      refine wp_region_of (g := gg) (by kernel_rfl) (by kernel_rfl) ?_
      repeat (go_big_quiet_step (fail))
      refine wpQuiet_nil ?_
      rintro _ ⟨gg, rfl⟩
      go_wp2_with fail
      go_ret
      exact ⟨ret_bool2 (by rw [HR.out]; simp [bad13, K.out]), goutW _⟩
end Go.Proofs.YtfigjpehecibeaaGreat.L
end
section
namespace Go.Proofs.YtfigjpehecibeaaGreat.L
open Go.RowKit Go.Proofs.YtfigjpehecibeaaGreatW.PrintWords Go.Proofs.YtfigjpehecibeaaGreatW.PrintLast Go.Proofs.YtfigjpehecibeaaGreatW.PrintMore Go.Proofs.YtfigjpehecibeaaGreat.Gr
set_option linter.unusedVariables false
set_option linter.unusedSimpArgs false
attribute [local go_sem] G.cell
theorem bad14_at {wd : Int} {s : S119} {d : Nat} {lo : List ByteArray} (hk : s.f0 = 4) (hn : ¬ s.f5 < s.f4) (P : Int) (hP : (2 : Int) ^ wd.toNat = P) (hw : ¬ 64 ≤ wd) (hP0 : 0 < P) : bad14 wd (.stmt s d lo) = decide (P < s.f5) := by
  unfold bad14 fitsB
  simp only []
  rw [beq_iff_eq.2 hk, decide_eq_false hn, decide_eq_false hw, hP]
  by_cases h : P < s.f5
  · rw [decide_eq_true h, decide_eq_true (show 0 < s.f5 by omega), decide_eq_false (show ¬ s.f5 - 1 < P by omega)]; rfl
  · rw [decide_eq_false h, decide_eq_true (show s.f5 - 1 < P by omega)]; simp
theorem bad14_64 {s : S119} {d : Nat} {lo : List ByteArray} (hk : s.f0 = 4) (hn : ¬ s.f5 < s.f4) : bad14 64 (.stmt s d lo) = false := by
  unfold bad14 fitsB
  simp only []
  rw [beq_iff_eq.2 hk, decide_eq_false hn, decide_eq_true (show (64 : Int) ≤ 64 by decide)]
  simp
set_option maxHeartbeats 1500000 in
set_option maxRecDepth 100000 in
theorem cl14_calls {Wb : World} (nm : ByteArray) (wd ln : Int) (ds : List S70) (bd : List S119) (A3 : Option Addr) (c3 : Nat) (A4 : Option Addr) (c4 : Nat) (hp : ProgAt Wb ds bd A3 c3 A4 c4) (hw : widthB wd = true) (W : World) (n : Nat) (dp sp ep : Value) (dI : Int) (lp : Value) (t : Th) (hR : RT t) (hB : Below Wb.heap.size Wb W) (ht : ThP Wb W dp sp ep dI lp t) (b : Bool) (hb : b = bad14 wd t) :
    Calls Tryz.prog 199 #[.agg #[.string nm, .int .i64 wd, .int .i64 ln, .slice A3 ds.length c3, .slice A4 bd.length c4], .agg #[.int .i64 n, dp, sp, ep, .int .i64 dI, lp]] W fun e w' => e = .returned (.bool b) ∧ Below W.heap.size W w' := by
  have gout : ∀ {o o' : Obj} (g : G ((W.alloc o).alloc o')), Below W.heap.size W g.W := fun g => (((Below.refl _ _).alloc (Nat.le_refl _) _).alloc (by simp) _).trans (g.below.mono (by simp; omega))
  have HB := Aside0.mk hB
  have HP := Aside0.mk hp
  have HR := Aside0.mk hb
  have HT := Aside0.mk ht
  have HRT := Aside0.mk hR
  clear hb hB hp hR
  go_enter Tryz.func199, Tryz.ntmps199
  go_upto_region 1 with (fail)
  refine wp_grown0 ?_
  intro gg
  have goutW : ∀ (g : G (gw0 gg)), Below W.heap.size W g.W := fun g => gout g
  have goutB : ∀ (g : G (gw0 gg)), Below Wb.heap.size Wb g.W := fun g => HB.out.trans ((goutW g).mono HB.out.size)
  cases t with
  | decl i =>
    obtain ⟨⟨a, rfl⟩, rfl, rfl, rfl, rfl⟩ := ht
    go_upto_region 1 with (fail)
    refine wp_region_of (g := gg) (by kernel_rfl) (by kernel_rfl) ?_
    repeat (go_big_quiet_step (fail))
    refine wpQuiet_nil ?_
    rintro _ ⟨gg, rfl⟩
    go_wp2_with fail
    go_ret
    exact ⟨ret_bool2 (by rw [HR.out]; rfl), goutW _⟩
  | stmt s d lo =>
    obtain ⟨rfl, ⟨a, A5, c5, A9, c9, A12, c12, A13, c13, rfl, hr, _⟩, rfl, rfl, hsc⟩ := ht
    have q0 : ∀ g : G (gw0 gg), g.W.cell? ⟨a.block, a.off, none⟩ = some (.int .i64 s.f0) := fun g => held_in (goutB g) (by have := hr 0 _ rfl; rwa [Nat.add_zero] at this)
    have q10 : ∀ g : G (gw0 gg), g.W.cell? ⟨a.block, a.off + 10, none⟩ = some (.int .u64 s.f4) := fun g => held_in (goutB g) (hr 10 _ rfl)
    have q11 : ∀ g : G (gw0 gg), g.W.cell? ⟨a.block, a.off + 11, none⟩ = some (.int .u64 s.f5) := fun g => held_in (goutB g) (hr 11 _ rfl)
    clear hr hsc
    by_cases k : s.f0 = 4
    · have K := Aside0.mk k
      rw [k] at q0
      clear k
      have hww : wd = 4 ∨ wd = 8 ∨ wd = 16 ∨ wd = 32 ∨ wd = 64 := by
          unfold widthB at hw
          simp only [Bool.or_eq_true, beq_iff_eq] at hw
          omega
      clear hw
      by_cases h : s.f5 < s.f4
      · have h' : s.f4 > s.f5 := h
        have H := Aside0.mk h
        clear h
        go_upto_region 1 with (fail)
        refine wp_region_of (g := gg) (by kernel_rfl) (by kernel_rfl) ?_
        repeat (go_big_quiet_step (fail))
        refine wpQuiet_nil ?_
        rintro _ ⟨gg, rfl⟩
        go_wp2_with fail
        go_ret
        exact ⟨ret_bool2 (by rw [HR.out]; simp [bad14, K.out, H.out]), goutW _⟩
      · have h' : ¬ s.f4 > s.f5 := h
        have H := Aside0.mk h
        clear h
        rcases hww with w | w | w | w | w
        · subst w
          by_cases h2 : s.f5 > 16
          · have H2 := Aside0.mk h2
            clear h2
            go_upto_region 1 with (fail)
            refine wp_region_of (g := gg) (by kernel_rfl) (by kernel_rfl) ?_
            repeat (go_big_quiet_step (fail))
            refine wpQuiet_nil ?_
            rintro _ ⟨gg, rfl⟩
            go_wp2_with fail
            go_ret
            exact ⟨ret_bool2 (by rw [HR.out, bad14_at K.out (by have := H.out; omega) 16 (by rfl) (by decide) (by decide)]), goutW _⟩
          · have H2 := Aside0.mk h2
            clear h2
            go_upto_region 1 with (fail)
            refine wp_region_of (g := gg) (by kernel_rfl) (by kernel_rfl) ?_
            repeat (go_big_quiet_step (fail))
            refine wpQuiet_nil ?_
            rintro _ ⟨gg, rfl⟩
            go_wp2_with fail
            go_ret
            exact ⟨ret_bool2 (by rw [HR.out, bad14_at K.out (by have := H.out; omega) 16 (by rfl) (by decide) (by decide)]), goutW _⟩
        · subst w
          by_cases h2 : s.f5 > 256
          · have H2 := Aside0.mk h2
            clear h2
            go_upto_region 1 with (fail)
            refine wp_region_of (g := gg) (by kernel_rfl) (by kernel_rfl) ?_
            repeat (go_big_quiet_step (fail))
            refine wpQuiet_nil ?_
            rintro _ ⟨gg, rfl⟩
            go_wp2_with fail
            go_ret
            exact ⟨ret_bool2 (by rw [HR.out, bad14_at K.out (by have := H.out; omega) 256 (by rfl) (by decide) (by decide)]), goutW _⟩
          · have H2 := Aside0.mk h2
            clear h2
            go_upto_region 1 with (fail)
            refine wp_region_of (g := gg) (by kernel_rfl) (by kernel_rfl) ?_
            repeat (go_big_quiet_step (fail))
            refine wpQuiet_nil ?_
            rintro _ ⟨gg, rfl⟩
            go_wp2_with fail
            go_ret
            exact ⟨ret_bool2 (by rw [HR.out, bad14_at K.out (by have := H.out; omega) 256 (by rfl) (by decide) (by decide)]), goutW _⟩
        · subst w
          by_cases h2 : s.f5 > 65536
          · have H2 := Aside0.mk h2
            clear h2
            go_upto_region 1 with (fail)
            refine wp_region_of (g := gg) (by kernel_rfl) (by kernel_rfl) ?_
            repeat (go_big_quiet_step (fail))
            refine wpQuiet_nil ?_
            rintro _ ⟨gg, rfl⟩
            go_wp2_with fail
            go_ret
            exact ⟨ret_bool2 (by rw [HR.out, bad14_at K.out (by have := H.out; omega) 65536 (by rfl) (by decide) (by decide)]), goutW _⟩
          · have H2 := Aside0.mk h2
            clear h2
            go_upto_region 1 with (fail)
            refine wp_region_of (g := gg) (by kernel_rfl) (by kernel_rfl) ?_
            repeat (go_big_quiet_step (fail))
            refine wpQuiet_nil ?_
            rintro _ ⟨gg, rfl⟩
            go_wp2_with fail
            go_ret
            exact ⟨ret_bool2 (by rw [HR.out, bad14_at K.out (by have := H.out; omega) 65536 (by rfl) (by decide) (by decide)]), goutW _⟩
        · subst w
          by_cases h2 : s.f5 > 4294967296
          · have H2 := Aside0.mk h2
            clear h2
            go_upto_region 1 with (fail)
            refine wp_region_of (g := gg) (by kernel_rfl) (by kernel_rfl) ?_
            repeat (go_big_quiet_step (fail))
            refine wpQuiet_nil ?_
            rintro _ ⟨gg, rfl⟩
            go_wp2_with fail
            go_ret
            exact ⟨ret_bool2 (by rw [HR.out, bad14_at K.out (by have := H.out; omega) 4294967296 (by rfl) (by decide) (by decide)]), goutW _⟩
          · have H2 := Aside0.mk h2
            clear h2
            go_upto_region 1 with (fail)
            refine wp_region_of (g := gg) (by kernel_rfl) (by kernel_rfl) ?_
            repeat (go_big_quiet_step (fail))
            refine wpQuiet_nil ?_
            rintro _ ⟨gg, rfl⟩
            go_wp2_with fail
            go_ret
            exact ⟨ret_bool2 (by rw [HR.out, bad14_at K.out (by have := H.out; omega) 4294967296 (by rfl) (by decide) (by decide)]), goutW _⟩
        · subst w
          go_upto_region 1 with (fail)
          refine wp_region_of (g := gg) (by kernel_rfl) (by kernel_rfl) ?_
          repeat (go_big_quiet_step (fail))
          refine wpQuiet_nil ?_
          rintro _ ⟨gg, rfl⟩
          go_wp2_with fail
          go_ret
          exact ⟨ret_bool2 (by rw [HR.out, bad14_64 K.out (by have := H.out; omega)]), goutW _⟩
    · have K := Aside0.mk k
      have b1 := bf k
      clear k
      go_upto_region 1 with (fail)
      refine wp_region_of (g := gg) (by kernel_rfl) (by kernel_rfl) ?_
      repeat (go_big_quiet_step (fail))
      refine wpQuiet_nil ?_
      rintro _ ⟨gg, rfl⟩
      go_wp2_with fail
      go_ret
      exact ⟨ret_bool2 (by rw [HR.out]; simp [bad14, K.out]), goutW _⟩
  | expr x lo =>
    obtain ⟨rfl, rfl, ⟨a, A, c, rfl, hr, _⟩, rfl, hsc⟩ := ht
    clear hr hsc
    go_upto_region 1 with (fail)
    refine wp_region_of (g := gg) (by kernel_rfl) (by kernel_rfl) ?_
    repeat (go_big_quiet_step (fail))
    refine wpQuiet_nil ?_
    rintro _ ⟨gg, rfl⟩
    go_wp2_with fail
    go_ret
    exact ⟨ret_bool2 (by rw [HR.out]; rfl), goutW _⟩
end Go.Proofs.YtfigjpehecibeaaGreat.L
end
section
namespace Go.Proofs.YtfigjpehecibeaaGreat.L
open Go.RowKit Go.Proofs.YtfigjpehecibeaaGreatW.PrintWords Go.Proofs.YtfigjpehecibeaaGreatW.PrintLast Go.Proofs.YtfigjpehecibeaaGreatW.PrintMore Go.Proofs.YtfigjpehecibeaaGreat.Gr
set_option linter.unusedVariables false
set_option linter.unusedSimpArgs false
attribute [local go_sem] G.cell
theorem find_qv {A3 : Option Addr} {ds : List S70} {s : ByteArray} {q : Option Addr} (hq : qOf A3 ds s = q) (nm : ByteArray) (wd ln : Int) (A3' : Option Addr) (c3 : Nat) (A4 : Option Addr) (n4 c4 : Nat) (w : World) (hd : k70.C w A3 ds.length ds) (hld : ds.length ≤ c3) :
    Calls Tryz.prog 181 #[.agg #[.string nm, .int .i64 wd, .int .i64 ln, .slice A3 ds.length c3, .slice A4 n4 c4], .string s] w fun e w' => e = .returned (.pointer q) ∧ Below w.heap.size w w' := hq ▸ find_q nm wd ln ds A3 c3 A4 n4 c4 s w hd hld
set_option maxHeartbeats 1500000 in
set_option maxRecDepth 100000 in
theorem cl15_calls {Wb : World} (nm : ByteArray) (wd ln : Int) (ds : List S70) (bd : List S119) (A3 : Option Addr) (c3 : Nat) (A4 : Option Addr) (c4 : Nat) (hp : ProgAt Wb ds bd A3 c3 A4 c4) (W : World) (n : Nat) (dp sp ep : Value) (dI : Int) (lp : Value) (t : Th) (hR : RT t) (hB : Below Wb.heap.size Wb W) (ht : ThP Wb W dp sp ep dI lp t) (b : Bool) (hb : b = bad15 ds t) :
    Calls Tryz.prog 200 #[.agg #[.string nm, .int .i64 wd, .int .i64 ln, .slice A3 ds.length c3, .slice A4 bd.length c4], .agg #[.int .i64 n, dp, sp, ep, .int .i64 dI, lp]] W fun e w' => e = .returned (.bool b) ∧ Below W.heap.size W w' := by
  have gout : ∀ {o o' : Obj} (g : G ((W.alloc o).alloc o')), Below W.heap.size W g.W := fun g => (((Below.refl _ _).alloc (Nat.le_refl _) _).alloc (by simp) _).trans (g.below.mono (by simp; omega))
  have HB := Aside0.mk hB
  have HP := Aside0.mk hp
  have HR := Aside0.mk hb
  have HT := Aside0.mk ht
  have HRT := Aside0.mk hR
  clear hb hB hp hR
  go_enter Tryz.func200, Tryz.ntmps200
  go_upto_region 1 with (fail)
  refine wp_grown0 ?_
  intro gg
  have goutW : ∀ (g : G (gw0 gg)), Below W.heap.size W g.W := fun g => gout g
  have goutB : ∀ (g : G (gw0 gg)), Below Wb.heap.size Wb g.W := fun g => HB.out.trans ((goutW g).mono HB.out.size)
  have HSC := Aside0.mk ht.scope
  cases t with
  | decl i =>
    obtain ⟨⟨a, rfl⟩, rfl, rfl, rfl, rfl⟩ := ht
    go_upto_region 1 with (fail)
    refine wp_region_of (g := gg) (by kernel_rfl) (by kernel_rfl) ?_
    repeat (go_big_quiet_step (fail))
    refine wpQuiet_nil ?_
    rintro _ ⟨gg, rfl⟩
    go_wp2_with fail
    go_ret
    exact ⟨ret_bool2 (by rw [HR.out]; rfl), goutW _⟩
  | stmt s d lo =>
    obtain ⟨rfl, ⟨a, A5, c5, A9, c9, A12, c12, A13, c13, rfl, hr, _⟩, rfl, rfl, hsc⟩ := ht
    have q0 : ∀ g : G (gw0 gg), g.W.cell? ⟨a.block, a.off, none⟩ = some (.int .i64 s.f0) := fun g => held_in (goutB g) (by have := hr 0 _ rfl; rwa [Nat.add_zero] at this)
    have q1 : ∀ g : G (gw0 gg), g.W.cell? ⟨a.block, a.off + 1, none⟩ = some (.string s.f1) := fun g => held_in (goutB g) (hr 1 _ rfl)
    clear hr hsc
    by_cases k : s.f0 = 4
    · have K := Aside0.mk k
      rw [k] at q0
      clear k
      rcases bcases (hasS lo s.f1) with hh | hh
      · have HH := Aside0.mk hh
        clear hh
        go_upto_region 1 with (fail)
        refine wp_region_of (g := gg) (by kernel_rfl) (by kernel_rfl) ?_
        repeat (go_big_quiet_step (fail))
        go_big_quiet_step (first | (go_at_call 195; exact call_of (has_v (HSC.out.below (goutW _)) HH.out)))
        repeat (go_big_quiet_step (fail))
        refine wpQuiet_nil ?_
        rintro _ ⟨gg, rfl⟩
        go_wp2_with fail
        go_ret
        exact ⟨ret_bool2 (by rw [HR.out]; simp [bad15, K.out, HH.out]), goutW _⟩
      · have HH := Aside0.mk hh
        clear hh
        rcases bcases ((findB ds s.f1).isNone) with hn | hn
        · have hq := qOf_none (A3 := A3) hn
          have HN := Aside0.mk (show (findB ds s.f1).isSome = false by cases hf : findB ds s.f1 with | none => rfl | some i => rw [hf] at hn; cases hn)
          clear hn
          go_upto_region 1 with (fail)
          refine wp_region_of (g := gg) (by kernel_rfl) (by kernel_rfl) ?_
          repeat (go_big_quiet_step (fail))
          go_big_quiet_step (first | (go_at_call 195; exact call_of (has_v (HSC.out.below (goutW _)) HH.out)))
          repeat (go_big_quiet_step (fail))
          go_big_quiet_step (first | (go_at_call 181; exact call_of (find_qv hq nm wd ln A3 c3 A4 bd.length c4 _ (Kd.C_below HP.out.hd (goutB _)) HP.out.hld)))
          repeat (go_big_quiet_step (fail))
          refine wpQuiet_nil ?_
          rintro _ ⟨gg, rfl⟩
          go_wp2_with fail
          go_ret
          exact ⟨ret_bool2 (by rw [HR.out]; simp only [bad15]; rw [HN.out, HH.out]; simp), goutW _⟩
        · obtain ⟨qa, hq⟩ := qOf_some HP.out.hd hn
          have HN := Aside0.mk (show (findB ds s.f1).isSome = true by cases hf : findB ds s.f1 with | none => rw [hf] at hn; cases hn | some i => rfl)
          clear hn
          go_upto_region 1 with (fail)
          refine wp_region_of (g := gg) (by kernel_rfl) (by kernel_rfl) ?_
          repeat (go_big_quiet_step (fail))
          go_big_quiet_step (first | (go_at_call 195; exact call_of (has_v (HSC.out.below (goutW _)) HH.out)))
          repeat (go_big_quiet_step (fail))
          go_big_quiet_step (first | (go_at_call 181; exact call_of (find_qv hq nm wd ln A3 c3 A4 bd.length c4 _ (Kd.C_below HP.out.hd (goutB _)) HP.out.hld)))
          repeat (go_big_quiet_step (fail))
          refine wpQuiet_nil ?_
          rintro _ ⟨gg, rfl⟩
          go_wp2_with fail
          go_ret
          exact ⟨ret_bool2 (by rw [HR.out]; simp only [bad15]; rw [HN.out, K.out]; rfl), goutW _⟩
    · have K := Aside0.mk k
      have b1 := bf k
      clear k
      go_upto_region 1 with (fail)
      refine wp_region_of (g := gg) (by kernel_rfl) (by kernel_rfl) ?_
      repeat (go_big_quiet_step (fail))
      refine wpQuiet_nil ?_
      rintro _ ⟨gg, rfl⟩
      go_wp2_with fail
      go_ret
      exact ⟨ret_bool2 (by rw [HR.out]; simp [bad15, K.out]), goutW _⟩
  | expr x lo =>
    obtain ⟨rfl, rfl, ⟨a, A, c, rfl, hr, _⟩, rfl, hsc⟩ := ht
    clear hr hsc
    go_upto_region 1 with (fail)
    refine wp_region_of (g := gg) (by kernel_rfl) (by kernel_rfl) ?_
    repeat (go_big_quiet_step (fail))
    refine wpQuiet_nil ?_
    rintro _ ⟨gg, rfl⟩
    go_wp2_with fail
    go_ret
    exact ⟨ret_bool2 (by rw [HR.out]; rfl), goutW _⟩
end Go.Proofs.YtfigjpehecibeaaGreat.L
end
