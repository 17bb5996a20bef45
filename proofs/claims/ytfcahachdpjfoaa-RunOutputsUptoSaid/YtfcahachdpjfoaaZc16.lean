/- Texts joined by a program of mine: Ui Uj Uk. -/
import Derived.Test.YtfcahachdpjfoaaZc15
section
namespace Go.Proofs.Ytfcahachdpjfoaa.L
open Go.RowKit Go.Proofs.YtfcahachdpjfoaaW.PrintWords Go.Proofs.YtfcahachdpjfoaaW.PrintLast Go.Proofs.YtfcahachdpjfoaaW.PrintMore Go.Proofs.Ytfcahachdpjfoaa.Gr
set_option linter.unusedVariables false
set_option linter.unusedSimpArgs false
attribute [local go_sem] G.cell
def ClauseT (K : FuncId) (W0 : World) (nm : ByteArray) (wd ln : Int) (ds : List S44) (bd : List S77) (A3 : Option Addr) (c3 : Nat) (A4 : Option Addr) (c4 : Nat) (R : Th → Prop) (f : Th → Bool) : Prop :=
  ∀ (Wb W : World) (n : Nat) (dp sp ep : Value) (dI : Int) (lp : Value) (t : Th), R t → Below W0.heap.size W0 Wb → Below Wb.heap.size Wb W → ThP Wb W dp sp ep dI lp t →
  Calls Try.prog K #[.agg #[.string nm, .int .i64 wd, .int .i64 ln, .slice A3 ds.length c3, .slice A4 bd.length c4], .agg #[.int .i64 n, dp, sp, ep, .int .i64 dI, lp]] W fun e w' => e = .returned (.bool (f t)) ∧ Below W.heap.size W w'
set_option maxHeartbeats 1000000 in
set_option maxRecDepth 100000 in
theorem wrong61_ok {W0 : World} {b1 b2 : Nat} {nm : ByteArray} {wd ln : Int} {ds : List S44} {bd : List S77} {A3 : Option Addr} {c3 : Nat} {A4 : Option Addr} {c4 : Nat} {R : Th → Prop} {f : Th → Bool} (hc : ClauseT 61 W0 nm wd ln ds bd A3 c3 A4 c4 R f)
    (h1 : W0.heap[b1]? = some (.cells #[.func (.func 61) #[] #[]] 102 (0, 0))) (h2 : W0.heap[b2]? = some (.cells #[.string nm, .int .i64 wd, .int .i64 ln, .slice A3 ds.length c3, .slice A4 bd.length c4] 29 (0, 0))) : WrongOK W0 (.pointer (some ⟨b1, 0, none⟩)) (.pointer (some ⟨b2, 0, none⟩)) R f := by
  intro Wb W n dp sp ep dI lp t hR h0 hB ht
  have gout : ∀ {o : Obj} (g : G (W.alloc o)), Below W.heap.size W g.W := fun g => ((Below.refl _ _).alloc (Nat.le_refl _) _).trans (g.below.mono (by simp))
  have hBW := h0.trans (hB.mono h0.size)
  have k1 := (hBW.block b1 (blk_lt h1)).trans h1
  have k2 := (hBW.block b2 (blk_lt h2)).trans h2
  have l1 := blk_lt k1
  have l2 := blk_lt k2
  have y0 : W.cell? ⟨b1, 0, none⟩ = some (.func (.func 61) #[] #[]) := (blk_cell k1 0).trans rfl
  have z0 : W.cell? ⟨b2, 0, none⟩ = some (.string nm) := (blk_cell k2 0).trans rfl
  have z1 : W.cell? ⟨b2, 1, none⟩ = some (.int .i64 wd) := (blk_cell k2 1).trans rfl
  have z2 : W.cell? ⟨b2, 2, none⟩ = some (.int .i64 ln) := (blk_cell k2 2).trans rfl
  have z3 : W.cell? ⟨b2, 3, none⟩ = some (.slice A3 ds.length c3) := (blk_cell k2 3).trans rfl
  have z4 : W.cell? ⟨b2, 4, none⟩ = some (.slice A4 bd.length c4) := (blk_cell k2 4).trans rfl
  have HX := Aside0.mk (And.intro hR (And.intro h0 (And.intro hB ht)))
  have HC := Aside0.mk hc
  clear hR h0 hB ht hc k1 k2 h1 h2 hBW
  go_enter Try.func95, Try.ntmps95
  go_upto_region 1 with (fail)
  refine wp_grown0 ?_
  intro gg
  go_wp2_with fail
  refine (call_of (g := gg) (HC.out Wb gg.W n dp sp ep dI lp t HX.out.1 HX.out.2.1 (HX.out.2.2.1.trans ((gout gg).mono HX.out.2.2.1.size)) (HX.out.2.2.2.below (gout gg)))).mono ?_
  rintro _ _ ⟨rfl, gg, rfl⟩
  go_wp2_with fail
  go_ret
  exact ⟨rfl, gout _⟩
set_option maxHeartbeats 1000000 in
set_option maxRecDepth 100000 in
theorem wrong63_ok {W0 : World} {b1 b2 : Nat} {nm : ByteArray} {wd ln : Int} {ds : List S44} {bd : List S77} {A3 : Option Addr} {c3 : Nat} {A4 : Option Addr} {c4 : Nat} {R : Th → Prop} {f : Th → Bool} (hc : ClauseT 63 W0 nm wd ln ds bd A3 c3 A4 c4 R f)
    (h1 : W0.heap[b1]? = some (.cells #[.func (.func 63) #[] #[]] 102 (0, 0))) (h2 : W0.heap[b2]? = some (.cells #[.string nm, .int .i64 wd, .int .i64 ln, .slice A3 ds.length c3, .slice A4 bd.length c4] 29 (0, 0))) : WrongOK W0 (.pointer (some ⟨b1, 0, none⟩)) (.pointer (some ⟨b2, 0, none⟩)) R f := by
  intro Wb W n dp sp ep dI lp t hR h0 hB ht
  have gout : ∀ {o : Obj} (g : G (W.alloc o)), Below W.heap.size W g.W := fun g => ((Below.refl _ _).alloc (Nat.le_refl _) _).trans (g.below.mono (by simp))
  have hBW := h0.trans (hB.mono h0.size)
  have k1 := (hBW.block b1 (blk_lt h1)).trans h1
  have k2 := (hBW.block b2 (blk_lt h2)).trans h2
  have l1 := blk_lt k1
  have l2 := blk_lt k2
  have y0 : W.cell? ⟨b1, 0, none⟩ = some (.func (.func 63) #[] #[]) := (blk_cell k1 0).trans rfl
  have z0 : W.cell? ⟨b2, 0, none⟩ = some (.string nm) := (blk_cell k2 0).trans rfl
  have z1 : W.cell? ⟨b2, 1, none⟩ = some (.int .i64 wd) := (blk_cell k2 1).trans rfl
  have z2 : W.cell? ⟨b2, 2, none⟩ = some (.int .i64 ln) := (blk_cell k2 2).trans rfl
  have z3 : W.cell? ⟨b2, 3, none⟩ = some (.slice A3 ds.length c3) := (blk_cell k2 3).trans rfl
  have z4 : W.cell? ⟨b2, 4, none⟩ = some (.slice A4 bd.length c4) := (blk_cell k2 4).trans rfl
  have HX := Aside0.mk (And.intro hR (And.intro h0 (And.intro hB ht)))
  have HC := Aside0.mk hc
  clear hR h0 hB ht hc k1 k2 h1 h2 hBW
  go_enter Try.func95, Try.ntmps95
  go_upto_region 1 with (fail)
  refine wp_grown0 ?_
  intro gg
  go_wp2_with fail
  refine (call_of (g := gg) (HC.out Wb gg.W n dp sp ep dI lp t HX.out.1 HX.out.2.1 (HX.out.2.2.1.trans ((gout gg).mono HX.out.2.2.1.size)) (HX.out.2.2.2.below (gout gg)))).mono ?_
  rintro _ _ ⟨rfl, gg, rfl⟩
  go_wp2_with fail
  go_ret
  exact ⟨rfl, gout _⟩
set_option maxHeartbeats 1000000 in
set_option maxRecDepth 100000 in
theorem wrong66_ok {W0 : World} {b1 b2 : Nat} {nm : ByteArray} {wd ln : Int} {ds : List S44} {bd : List S77} {A3 : Option Addr} {c3 : Nat} {A4 : Option Addr} {c4 : Nat} {R : Th → Prop} {f : Th → Bool} (hc : ClauseT 66 W0 nm wd ln ds bd A3 c3 A4 c4 R f)
    (h1 : W0.heap[b1]? = some (.cells #[.func (.func 66) #[] #[]] 102 (0, 0))) (h2 : W0.heap[b2]? = some (.cells #[.string nm, .int .i64 wd, .int .i64 ln, .slice A3 ds.length c3, .slice A4 bd.length c4] 29 (0, 0))) : WrongOK W0 (.pointer (some ⟨b1, 0, none⟩)) (.pointer (some ⟨b2, 0, none⟩)) R f := by
  intro Wb W n dp sp ep dI lp t hR h0 hB ht
  have gout : ∀ {o : Obj} (g : G (W.alloc o)), Below W.heap.size W g.W := fun g => ((Below.refl _ _).alloc (Nat.le_refl _) _).trans (g.below.mono (by simp))
  have hBW := h0.trans (hB.mono h0.size)
  have k1 := (hBW.block b1 (blk_lt h1)).trans h1
  have k2 := (hBW.block b2 (blk_lt h2)).trans h2
  have l1 := blk_lt k1
  have l2 := blk_lt k2
  have y0 : W.cell? ⟨b1, 0, none⟩ = some (.func (.func 66) #[] #[]) := (blk_cell k1 0).trans rfl
  have z0 : W.cell? ⟨b2, 0, none⟩ = some (.string nm) := (blk_cell k2 0).trans rfl
  have z1 : W.cell? ⟨b2, 1, none⟩ = some (.int .i64 wd) := (blk_cell k2 1).trans rfl
  have z2 : W.cell? ⟨b2, 2, none⟩ = some (.int .i64 ln) := (blk_cell k2 2).trans rfl
  have z3 : W.cell? ⟨b2, 3, none⟩ = some (.slice A3 ds.length c3) := (blk_cell k2 3).trans rfl
  have z4 : W.cell? ⟨b2, 4, none⟩ = some (.slice A4 bd.length c4) := (blk_cell k2 4).trans rfl
  have HX := Aside0.mk (And.intro hR (And.intro h0 (And.intro hB ht)))
  have HC := Aside0.mk hc
  clear hR h0 hB ht hc k1 k2 h1 h2 hBW
  go_enter Try.func95, Try.ntmps95
  go_upto_region 1 with (fail)
  refine wp_grown0 ?_
  intro gg
  go_wp2_with fail
  refine (call_of (g := gg) (HC.out Wb gg.W n dp sp ep dI lp t HX.out.1 HX.out.2.1 (HX.out.2.2.1.trans ((gout gg).mono HX.out.2.2.1.size)) (HX.out.2.2.2.below (gout gg)))).mono ?_
  rintro _ _ ⟨rfl, gg, rfl⟩
  go_wp2_with fail
  go_ret
  exact ⟨rfl, gout _⟩
set_option maxHeartbeats 1000000 in
set_option maxRecDepth 100000 in
theorem wrong68_ok {W0 : World} {b1 b2 : Nat} {nm : ByteArray} {wd ln : Int} {ds : List S44} {bd : List S77} {A3 : Option Addr} {c3 : Nat} {A4 : Option Addr} {c4 : Nat} {R : Th → Prop} {f : Th → Bool} (hc : ClauseT 68 W0 nm wd ln ds bd A3 c3 A4 c4 R f)
    (h1 : W0.heap[b1]? = some (.cells #[.func (.func 68) #[] #[]] 102 (0, 0))) (h2 : W0.heap[b2]? = some (.cells #[.string nm, .int .i64 wd, .int .i64 ln, .slice A3 ds.length c3, .slice A4 bd.length c4] 29 (0, 0))) : WrongOK W0 (.pointer (some ⟨b1, 0, none⟩)) (.pointer (some ⟨b2, 0, none⟩)) R f := by
  intro Wb W n dp sp ep dI lp t hR h0 hB ht
  have gout : ∀ {o : Obj} (g : G (W.alloc o)), Below W.heap.size W g.W := fun g => ((Below.refl _ _).alloc (Nat.le_refl _) _).trans (g.below.mono (by simp))
  have hBW := h0.trans (hB.mono h0.size)
  have k1 := (hBW.block b1 (blk_lt h1)).trans h1
  have k2 := (hBW.block b2 (blk_lt h2)).trans h2
  have l1 := blk_lt k1
  have l2 := blk_lt k2
  have y0 : W.cell? ⟨b1, 0, none⟩ = some (.func (.func 68) #[] #[]) := (blk_cell k1 0).trans rfl
  have z0 : W.cell? ⟨b2, 0, none⟩ = some (.string nm) := (blk_cell k2 0).trans rfl
  have z1 : W.cell? ⟨b2, 1, none⟩ = some (.int .i64 wd) := (blk_cell k2 1).trans rfl
  have z2 : W.cell? ⟨b2, 2, none⟩ = some (.int .i64 ln) := (blk_cell k2 2).trans rfl
  have z3 : W.cell? ⟨b2, 3, none⟩ = some (.slice A3 ds.length c3) := (blk_cell k2 3).trans rfl
  have z4 : W.cell? ⟨b2, 4, none⟩ = some (.slice A4 bd.length c4) := (blk_cell k2 4).trans rfl
  have HX := Aside0.mk (And.intro hR (And.intro h0 (And.intro hB ht)))
  have HC := Aside0.mk hc
  clear hR h0 hB ht hc k1 k2 h1 h2 hBW
  go_enter Try.func95, Try.ntmps95
  go_upto_region 1 with (fail)
  refine wp_grown0 ?_
  intro gg
  go_wp2_with fail
  refine (call_of (g := gg) (HC.out Wb gg.W n dp sp ep dI lp t HX.out.1 HX.out.2.1 (HX.out.2.2.1.trans ((gout gg).mono HX.out.2.2.1.size)) (HX.out.2.2.2.below (gout gg)))).mono ?_
  rintro _ _ ⟨rfl, gg, rfl⟩
  go_wp2_with fail
  go_ret
  exact ⟨rfl, gout _⟩
set_option maxHeartbeats 1000000 in
set_option maxRecDepth 100000 in
theorem wrong69_ok {W0 : World} {b1 b2 : Nat} {nm : ByteArray} {wd ln : Int} {ds : List S44} {bd : List S77} {A3 : Option Addr} {c3 : Nat} {A4 : Option Addr} {c4 : Nat} {R : Th → Prop} {f : Th → Bool} (hc : ClauseT 69 W0 nm wd ln ds bd A3 c3 A4 c4 R f)
    (h1 : W0.heap[b1]? = some (.cells #[.func (.func 69) #[] #[]] 102 (0, 0))) (h2 : W0.heap[b2]? = some (.cells #[.string nm, .int .i64 wd, .int .i64 ln, .slice A3 ds.length c3, .slice A4 bd.length c4] 29 (0, 0))) : WrongOK W0 (.pointer (some ⟨b1, 0, none⟩)) (.pointer (some ⟨b2, 0, none⟩)) R f := by
  intro Wb W n dp sp ep dI lp t hR h0 hB ht
  have gout : ∀ {o : Obj} (g : G (W.alloc o)), Below W.heap.size W g.W := fun g => ((Below.refl _ _).alloc (Nat.le_refl _) _).trans (g.below.mono (by simp))
  have hBW := h0.trans (hB.mono h0.size)
  have k1 := (hBW.block b1 (blk_lt h1)).trans h1
  have k2 := (hBW.block b2 (blk_lt h2)).trans h2
  have l1 := blk_lt k1
  have l2 := blk_lt k2
  have y0 : W.cell? ⟨b1, 0, none⟩ = some (.func (.func 69) #[] #[]) := (blk_cell k1 0).trans rfl
  have z0 : W.cell? ⟨b2, 0, none⟩ = some (.string nm) := (blk_cell k2 0).trans rfl
  have z1 : W.cell? ⟨b2, 1, none⟩ = some (.int .i64 wd) := (blk_cell k2 1).trans rfl
  have z2 : W.cell? ⟨b2, 2, none⟩ = some (.int .i64 ln) := (blk_cell k2 2).trans rfl
  have z3 : W.cell? ⟨b2, 3, none⟩ = some (.slice A3 ds.length c3) := (blk_cell k2 3).trans rfl
  have z4 : W.cell? ⟨b2, 4, none⟩ = some (.slice A4 bd.length c4) := (blk_cell k2 4).trans rfl
  have HX := Aside0.mk (And.intro hR (And.intro h0 (And.intro hB ht)))
  have HC := Aside0.mk hc
  clear hR h0 hB ht hc k1 k2 h1 h2 hBW
  go_enter Try.func95, Try.ntmps95
  go_upto_region 1 with (fail)
  refine wp_grown0 ?_
  intro gg
  go_wp2_with fail
  refine (call_of (g := gg) (HC.out Wb gg.W n dp sp ep dI lp t HX.out.1 HX.out.2.1 (HX.out.2.2.1.trans ((gout gg).mono HX.out.2.2.1.size)) (HX.out.2.2.2.below (gout gg)))).mono ?_
  rintro _ _ ⟨rfl, gg, rfl⟩
  go_wp2_with fail
  go_ret
  exact ⟨rfl, gout _⟩
set_option maxHeartbeats 1000000 in
set_option maxRecDepth 100000 in
theorem wrong70_ok {W0 : World} {b1 b2 : Nat} {nm : ByteArray} {wd ln : Int} {ds : List S44} {bd : List S77} {A3 : Option Addr} {c3 : Nat} {A4 : Option Addr} {c4 : Nat} {R : Th → Prop} {f : Th → Bool} (hc : ClauseT 70 W0 nm wd ln ds bd A3 c3 A4 c4 R f)
    (h1 : W0.heap[b1]? = some (.cells #[.func (.func 70) #[] #[]] 102 (0, 0))) (h2 : W0.heap[b2]? = some (.cells #[.string nm, .int .i64 wd, .int .i64 ln, .slice A3 ds.length c3, .slice A4 bd.length c4] 29 (0, 0))) : WrongOK W0 (.pointer (some ⟨b1, 0, none⟩)) (.pointer (some ⟨b2, 0, none⟩)) R f := by
  intro Wb W n dp sp ep dI lp t hR h0 hB ht
  have gout : ∀ {o : Obj} (g : G (W.alloc o)), Below W.heap.size W g.W := fun g => ((Below.refl _ _).alloc (Nat.le_refl _) _).trans (g.below.mono (by simp))
  have hBW := h0.trans (hB.mono h0.size)
  have k1 := (hBW.block b1 (blk_lt h1)).trans h1
  have k2 := (hBW.block b2 (blk_lt h2)).trans h2
  have l1 := blk_lt k1
  have l2 := blk_lt k2
  have y0 : W.cell? ⟨b1, 0, none⟩ = some (.func (.func 70) #[] #[]) := (blk_cell k1 0).trans rfl
  have z0 : W.cell? ⟨b2, 0, none⟩ = some (.string nm) := (blk_cell k2 0).trans rfl
  have z1 : W.cell? ⟨b2, 1, none⟩ = some (.int .i64 wd) := (blk_cell k2 1).trans rfl
  have z2 : W.cell? ⟨b2, 2, none⟩ = some (.int .i64 ln) := (blk_cell k2 2).trans rfl
  have z3 : W.cell? ⟨b2, 3, none⟩ = some (.slice A3 ds.length c3) := (blk_cell k2 3).trans rfl
  have z4 : W.cell? ⟨b2, 4, none⟩ = some (.slice A4 bd.length c4) := (blk_cell k2 4).trans rfl
  have HX := Aside0.mk (And.intro hR (And.intro h0 (And.intro hB ht)))
  have HC := Aside0.mk hc
  clear hR h0 hB ht hc k1 k2 h1 h2 hBW
  go_enter Try.func95, Try.ntmps95
  go_upto_region 1 with (fail)
  refine wp_grown0 ?_
  intro gg
  go_wp2_with fail
  refine (call_of (g := gg) (HC.out Wb gg.W n dp sp ep dI lp t HX.out.1 HX.out.2.1 (HX.out.2.2.1.trans ((gout gg).mono HX.out.2.2.1.size)) (HX.out.2.2.2.below (gout gg)))).mono ?_
  rintro _ _ ⟨rfl, gg, rfl⟩
  go_wp2_with fail
  go_ret
  exact ⟨rfl, gout _⟩
end Go.Proofs.Ytfcahachdpjfoaa.L
end
section
namespace Go.Proofs.Ytfcahachdpjfoaa.L
open Go.RowKit Go.Proofs.YtfcahachdpjfoaaW.PrintWords Go.Proofs.YtfcahachdpjfoaaW.PrintLast Go.Proofs.YtfcahachdpjfoaaW.PrintMore Go.Proofs.Ytfcahachdpjfoaa.Gr
set_option linter.unusedVariables false
set_option linter.unusedSimpArgs false
attribute [local go_sem] G.cell
theorem ret_pb {a c : Int} {b d : Bool} (h1 : a = c) (h2 : b = d) : Ending.returned (.tuple #[.int .i64 a, .bool b]) = .returned (.tuple #[.int .i64 c, .bool d]) := by rw [h1, h2]
set_option maxHeartbeats 1000000 in
set_option maxRecDepth 100000 in
theorem things1_calls {R : Th → Prop} {f : Th → Bool} (nm : ByteArray) (wd ln : Int) (ds : List S44) (bd : List S77) (A3 : Option Addr) (c3 : Nat) (A4 : Option Addr) (c4 : Nat) (b1 : Nat) (W : World) (hp : ProgAt W ds bd A3 c3 A4 c4) (hform : bdB bd = true) (hdl : ds.length ≤ 1048576) (hbb : Ot.bulkTs bd ≤ 1048576) (hR : ∀ t ∈ things ds bd, R t)
    (hW : ∀ X b2, Below W.heap.size W X → X.heap[b2]? = some (.cells #[.string nm, .int .i64 wd, .int .i64 ln, .slice A3 ds.length c3, .slice A4 bd.length c4] 29 (0, 0)) → WrongOK X (.pointer (some ⟨b1, 0, none⟩)) (.pointer (some ⟨b2, 0, none⟩)) R f) (r : Int × Bool) (hr : r = firstS f (things ds bd)) :
    Calls Try.prog 93 #[.agg #[.string nm, .int .i64 wd, .int .i64 ln, .slice A3 ds.length c3, .slice A4 bd.length c4], .pointer (some ⟨b1, 0, none⟩)] W fun e w' => e = .returned (.tuple #[.int .i64 r.1, .bool r.2]) ∧ Below W.heap.size W w' := by
  have hmf : ∀ (fn : Fn) (first cap : Array Value) (w : World), (Instr.makeFunc fn first cap).run Try.prog w = .ok (.func fn first cap) w := fun _ _ _ _ => rfl
  have gout : ∀ {o : Obj} (g : G (W.alloc o)), Below W.heap.size W g.W := fun g => ((Below.refl _ _).alloc (Nat.le_refl _) _).trans (g.below.mono (by simp))
  have HP := Aside0.mk hp
  have HR := Aside0.mk hr
  have HZ := Aside0.mk (And.intro hform (And.intro hdl (And.intro hbb hR)))
  have HW := Aside0.mk hW
  clear hp hr hform hdl hbb hR hW
  go_enter Try.func93, Try.ntmps93
  go_upto_region 1 with (fail)
  refine wp_grown0 ?_
  intro gg
  have HBX := Aside0.mk (show gg.W.heap[W.heap.size]? = some (.cells #[.string nm, .int .i64 wd, .int .i64 ln, .slice A3 ds.length c3, .slice A4 bd.length c4] 29 (0, 0)) from blk_below (blk_new _ _) gg.below)
  go_wp2_with fail
  have F := first_calls (HW.out gg.W W.heap.size (gout gg) HBX.out) nm wd ln ds bd A3 c3 A4 c4 gg.W (HP.out.below (gout gg)) HZ.out.1 HZ.out.2.1 HZ.out.2.2.1 HZ.out.2.2.2 (Below.refl _ _)
  rw [← HR.out] at F
  refine (call_of (g := gg) F).mono ?_
  clear F
  rintro _ _ ⟨rfl, gg, rfl⟩
  go_wp2_with fail
  go_ret2
  exact ⟨rfl, gout _⟩
set_option maxHeartbeats 1000000 in
set_option maxRecDepth 100000 in
theorem whole44_calls (nm : ByteArray) (wd ln : Int) (ds : List S44) (bd : List S77) (A3 : Option Addr) (c3 : Nat) (A4 : Option Addr) (c4 : Nat) (b1 : Nat) (W : World) (hb1 : W.heap[b1]? = some (.cells #[.func (.func 44) #[] #[]] 40 (0, 0))) (b : Bool)
    (hc : ∀ X, Below W.heap.size W X → Calls Try.prog 44 #[.agg #[.string nm, .int .i64 wd, .int .i64 ln, .slice A3 ds.length c3, .slice A4 bd.length c4]] X fun e w' => e = .returned (.bool b) ∧ Below X.heap.size X w') :
    Calls Try.prog 87 #[.agg #[.string nm, .int .i64 wd, .int .i64 ln, .slice A3 ds.length c3, .slice A4 bd.length c4], .pointer (some ⟨b1, 0, none⟩)] W fun e w' => e = .returned (.tuple #[.int .i64 (-1), .bool (!b)]) ∧ Below W.heap.size W w' := by
  have gout : ∀ {o : Obj} (g : G (W.alloc o)), Below W.heap.size W g.W := fun g => ((Below.refl _ _).alloc (Nat.le_refl _) _).trans (g.below.mono (by simp))
  have HC := Aside0.mk hc
  have l1 := blk_lt hb1
  have y0 : W.cell? ⟨b1, 0, none⟩ = some (.func (.func 44) #[] #[]) := (blk_cell hb1 0).trans rfl
  clear hc hb1
  go_enter Try.func87, Try.ntmps87
  go_upto_region 1 with (fail)
  refine wp_grown0 ?_
  intro gg
  go_wp2_with fail
  refine (call_of (g := gg) (HC.out gg.W (gout gg))).mono ?_
  rintro _ _ ⟨rfl, gg, rfl⟩
  go_wp2_with fail
  go_ret2
  exact ⟨rfl, gout _⟩
set_option maxHeartbeats 1000000 in
set_option maxRecDepth 100000 in
theorem whole45_calls (nm : ByteArray) (wd ln : Int) (ds : List S44) (bd : List S77) (A3 : Option Addr) (c3 : Nat) (A4 : Option Addr) (c4 : Nat) (b1 : Nat) (W : World) (hb1 : W.heap[b1]? = some (.cells #[.func (.func 45) #[] #[]] 40 (0, 0))) (b : Bool)
    (hc : ∀ X, Below W.heap.size W X → Calls Try.prog 45 #[.agg #[.string nm, .int .i64 wd, .int .i64 ln, .slice A3 ds.length c3, .slice A4 bd.length c4]] X fun e w' => e = .returned (.bool b) ∧ Below X.heap.size X w') :
    Calls Try.prog 87 #[.agg #[.string nm, .int .i64 wd, .int .i64 ln, .slice A3 ds.length c3, .slice A4 bd.length c4], .pointer (some ⟨b1, 0, none⟩)] W fun e w' => e = .returned (.tuple #[.int .i64 (-1), .bool (!b)]) ∧ Below W.heap.size W w' := by
  have gout : ∀ {o : Obj} (g : G (W.alloc o)), Below W.heap.size W g.W := fun g => ((Below.refl _ _).alloc (Nat.le_refl _) _).trans (g.below.mono (by simp))
  have HC := Aside0.mk hc
  have l1 := blk_lt hb1
  have y0 : W.cell? ⟨b1, 0, none⟩ = some (.func (.func 45) #[] #[]) := (blk_cell hb1 0).trans rfl
  clear hc hb1
  go_enter Try.func87, Try.ntmps87
  go_upto_region 1 with (fail)
  refine wp_grown0 ?_
  intro gg
  go_wp2_with fail
  refine (call_of (g := gg) (HC.out gg.W (gout gg))).mono ?_
  rintro _ _ ⟨rfl, gg, rfl⟩
  go_wp2_with fail
  go_ret2
  exact ⟨rfl, gout _⟩
set_option maxHeartbeats 1000000 in
set_option maxRecDepth 100000 in
theorem whole47_calls (nm : ByteArray) (wd ln : Int) (ds : List S44) (bd : List S77) (A3 : Option Addr) (c3 : Nat) (A4 : Option Addr) (c4 : Nat) (b1 : Nat) (W : World) (hb1 : W.heap[b1]? = some (.cells #[.func (.func 47) #[] #[]] 40 (0, 0))) (b : Bool)
    (hc : ∀ X, Below W.heap.size W X → Calls Try.prog 47 #[.agg #[.string nm, .int .i64 wd, .int .i64 ln, .slice A3 ds.length c3, .slice A4 bd.length c4]] X fun e w' => e = .returned (.bool b) ∧ Below X.heap.size X w') :
    Calls Try.prog 87 #[.agg #[.string nm, .int .i64 wd, .int .i64 ln, .slice A3 ds.length c3, .slice A4 bd.length c4], .pointer (some ⟨b1, 0, none⟩)] W fun e w' => e = .returned (.tuple #[.int .i64 (-1), .bool (!b)]) ∧ Below W.heap.size W w' := by
  have gout : ∀ {o : Obj} (g : G (W.alloc o)), Below W.heap.size W g.W := fun g => ((Below.refl _ _).alloc (Nat.le_refl _) _).trans (g.below.mono (by simp))
  have HC := Aside0.mk hc
  have l1 := blk_lt hb1
  have y0 : W.cell? ⟨b1, 0, none⟩ = some (.func (.func 47) #[] #[]) := (blk_cell hb1 0).trans rfl
  clear hc hb1
  go_enter Try.func87, Try.ntmps87
  go_upto_region 1 with (fail)
  refine wp_grown0 ?_
  intro gg
  go_wp2_with fail
  refine (call_of (g := gg) (HC.out gg.W (gout gg))).mono ?_
  rintro _ _ ⟨rfl, gg, rfl⟩
  go_wp2_with fail
  go_ret2
  exact ⟨rfl, gout _⟩
set_option maxHeartbeats 1000000 in
set_option maxRecDepth 100000 in
theorem whole48_calls (nm : ByteArray) (wd ln : Int) (ds : List S44) (bd : List S77) (A3 : Option Addr) (c3 : Nat) (A4 : Option Addr) (c4 : Nat) (b1 : Nat) (W : World) (hb1 : W.heap[b1]? = some (.cells #[.func (.func 48) #[] #[]] 40 (0, 0))) (b : Bool)
    (hc : ∀ X, Below W.heap.size W X → Calls Try.prog 48 #[.agg #[.string nm, .int .i64 wd, .int .i64 ln, .slice A3 ds.length c3, .slice A4 bd.length c4]] X fun e w' => e = .returned (.bool b) ∧ Below X.heap.size X w') :
    Calls Try.prog 87 #[.agg #[.string nm, .int .i64 wd, .int .i64 ln, .slice A3 ds.length c3, .slice A4 bd.length c4], .pointer (some ⟨b1, 0, none⟩)] W fun e w' => e = .returned (.tuple #[.int .i64 (-1), .bool (!b)]) ∧ Below W.heap.size W w' := by
  have gout : ∀ {o : Obj} (g : G (W.alloc o)), Below W.heap.size W g.W := fun g => ((Below.refl _ _).alloc (Nat.le_refl _) _).trans (g.below.mono (by simp))
  have HC := Aside0.mk hc
  have l1 := blk_lt hb1
  have y0 : W.cell? ⟨b1, 0, none⟩ = some (.func (.func 48) #[] #[]) := (blk_cell hb1 0).trans rfl
  clear hc hb1
  go_enter Try.func87, Try.ntmps87
  go_upto_region 1 with (fail)
  refine wp_grown0 ?_
  intro gg
  go_wp2_with fail
  refine (call_of (g := gg) (HC.out gg.W (gout gg))).mono ?_
  rintro _ _ ⟨rfl, gg, rfl⟩
  go_wp2_with fail
  go_ret2
  exact ⟨rfl, gout _⟩
set_option maxHeartbeats 1000000 in
set_option maxRecDepth 100000 in
theorem whole58_calls (nm : ByteArray) (wd ln : Int) (ds : List S44) (bd : List S77) (A3 : Option Addr) (c3 : Nat) (A4 : Option Addr) (c4 : Nat) (b1 : Nat) (W : World) (hb1 : W.heap[b1]? = some (.cells #[.func (.func 58) #[] #[]] 40 (0, 0))) (b : Bool)
    (hc : ∀ X, Below W.heap.size W X → Calls Try.prog 58 #[.agg #[.string nm, .int .i64 wd, .int .i64 ln, .slice A3 ds.length c3, .slice A4 bd.length c4]] X fun e w' => e = .returned (.bool b) ∧ Below X.heap.size X w') :
    Calls Try.prog 87 #[.agg #[.string nm, .int .i64 wd, .int .i64 ln, .slice A3 ds.length c3, .slice A4 bd.length c4], .pointer (some ⟨b1, 0, none⟩)] W fun e w' => e = .returned (.tuple #[.int .i64 (-1), .bool (!b)]) ∧ Below W.heap.size W w' := by
  have gout : ∀ {o : Obj} (g : G (W.alloc o)), Below W.heap.size W g.W := fun g => ((Below.refl _ _).alloc (Nat.le_refl _) _).trans (g.below.mono (by simp))
  have HC := Aside0.mk hc
  have l1 := blk_lt hb1
  have y0 : W.cell? ⟨b1, 0, none⟩ = some (.func (.func 58) #[] #[]) := (blk_cell hb1 0).trans rfl
  clear hc hb1
  go_enter Try.func87, Try.ntmps87
  go_upto_region 1 with (fail)
  refine wp_grown0 ?_
  intro gg
  go_wp2_with fail
  refine (call_of (g := gg) (HC.out gg.W (gout gg))).mono ?_
  rintro _ _ ⟨rfl, gg, rfl⟩
  go_wp2_with fail
  go_ret2
  exact ⟨rfl, gout _⟩
set_option maxHeartbeats 1000000 in
set_option maxRecDepth 100000 in
theorem whole71_calls (nm : ByteArray) (wd ln : Int) (ds : List S44) (bd : List S77) (A3 : Option Addr) (c3 : Nat) (A4 : Option Addr) (c4 : Nat) (b1 : Nat) (W : World) (hb1 : W.heap[b1]? = some (.cells #[.func (.func 71) #[] #[]] 40 (0, 0))) (b : Bool)
    (hc : ∀ X, Below W.heap.size W X → Calls Try.prog 71 #[.agg #[.string nm, .int .i64 wd, .int .i64 ln, .slice A3 ds.length c3, .slice A4 bd.length c4]] X fun e w' => e = .returned (.bool b) ∧ Below X.heap.size X w') :
    Calls Try.prog 87 #[.agg #[.string nm, .int .i64 wd, .int .i64 ln, .slice A3 ds.length c3, .slice A4 bd.length c4], .pointer (some ⟨b1, 0, none⟩)] W fun e w' => e = .returned (.tuple #[.int .i64 (-1), .bool (!b)]) ∧ Below W.heap.size W w' := by
  have gout : ∀ {o : Obj} (g : G (W.alloc o)), Below W.heap.size W g.W := fun g => ((Below.refl _ _).alloc (Nat.le_refl _) _).trans (g.below.mono (by simp))
  have HC := Aside0.mk hc
  have l1 := blk_lt hb1
  have y0 : W.cell? ⟨b1, 0, none⟩ = some (.func (.func 71) #[] #[]) := (blk_cell hb1 0).trans rfl
  clear hc hb1
  go_enter Try.func87, Try.ntmps87
  go_upto_region 1 with (fail)
  refine wp_grown0 ?_
  intro gg
  go_wp2_with fail
  refine (call_of (g := gg) (HC.out gg.W (gout gg))).mono ?_
  rintro _ _ ⟨rfl, gg, rfl⟩
  go_wp2_with fail
  go_ret2
  exact ⟨rfl, gout _⟩
end Go.Proofs.Ytfcahachdpjfoaa.L
end
section
namespace Go.Proofs.Ytfcahachdpjfoaa.L
open Go.RowKit Go.Proofs.YtfcahachdpjfoaaW.PrintWords Go.Proofs.YtfcahachdpjfoaaW.PrintLast Go.Proofs.YtfcahachdpjfoaaW.PrintMore Go.Proofs.Ytfcahachdpjfoaa.Gr
set_option linter.unusedVariables false
set_option linter.unusedSimpArgs false
attribute [local go_sem] G.cell
def firstD (f : Nat → Bool) (n : Nat) : Int × Bool := match firstN n f with
  | some i => ((i : Int), true)
  | none => (0, false)
set_option maxHeartbeats 1000000 in
set_option maxRecDepth 100000 in
theorem decls50_calls (nm : ByteArray) (wd ln : Int) (ds : List S44) (bd : List S77) (A3 : Option Addr) (c3 : Nat) (A4 : Option Addr) (c4 : Nat) (b1 : Nat) (W : World) (hlm : ds.length ≤ 1048576) (hb1 : W.heap[b1]? = some (.cells #[.func (.func 50) #[] #[]] 90 (0, 0))) (f : Nat → Bool)
    (hc : ∀ X i, Below W.heap.size W X → i < ds.length → Calls Try.prog 50 #[.agg #[.string nm, .int .i64 wd, .int .i64 ln, .slice A3 ds.length c3, .slice A4 bd.length c4], .int .i64 (i : Int)] X fun e w' => e = .returned (.bool (f i)) ∧ Below X.heap.size X w') (r : Int × Bool) (hr : r = firstD f ds.length) :
    Calls Try.prog 91 #[.agg #[.string nm, .int .i64 wd, .int .i64 ln, .slice A3 ds.length c3, .slice A4 bd.length c4], .pointer (some ⟨b1, 0, none⟩)] W fun e w' => e = .returned (.tuple #[.int .i64 r.1, .bool r.2]) ∧ Below W.heap.size W w' := by
  have gout : ∀ {o : Obj} (g : G (W.alloc o)), Below W.heap.size W g.W := fun g => ((Below.refl _ _).alloc (Nat.le_refl _) _).trans (g.below.mono (by simp))
  have HC := Aside0.mk hc
  have HR := Aside0.mk hr
  have l1 := blk_lt hb1
  have y0 : W.cell? ⟨b1, 0, none⟩ = some (.func (.func 50) #[] #[]) := (blk_cell hb1 0).trans rfl
  clear hc hb1 hr
  go_enter Try.func91, Try.ntmps91
  go_upto_region 1 with (fail)
  refine wp_grown0 ?_
  intro gg
  have goutW : ∀ (g : G (gw0 gg)), Below W.heap.size W g.W := fun g => gout g
  go_wp2_with fail
  go_loopw [9] (fun i X => ∃ (k : Nat) (g : G (gw0 gg)), i = .int .i64 k ∧ X = g.W ∧ k ≤ ds.length ∧ Aside0 (∀ j, j < k → f j = false)) (fun i _ => ds.length - (intOf i).toNat)
  case atStart => exact ⟨0, gg, rfl, rfl, Nat.zero_le _, ⟨fun j hj => absurd hj (Nat.not_lt_zero _)⟩⟩
  case round =>
    obtain ⟨k, gx, rfl, rfl, hk, HK⟩ := hrel
    by_cases hlt : k < ds.length
    · have hk1 : (k : Int) < (ds.length : Int) := by omega
      go_wp2_with fail
      refine (call_of (g := gx) (HC.out gx.W k (goutW gx) hlt)).mono ?_
      rintro _ _ ⟨rfl, g2, rfl⟩
      cases hf : f k
      · have HF := Aside0.mk hf
        clear hf
        go_wp2_with fail
        exact ⟨⟨k + 1, g2, by go_num, rfl, by omega, ⟨fun j hj => (Decidable.em (j = k)).elim (fun h => h ▸ HF.out) (fun h => HK.out j (by omega))⟩⟩, by simp [intOf]; omega⟩
      · have HF := Aside0.mk hf
        clear hf
        go_wp2_with fail
        go_ret2
        have e : r = ((k : Int), true) := by rw [HR.out]; unfold firstD; rw [firstN_some hlt HF.out HK.out]
        exact ⟨ret_pb (by rw [e]) (by rw [e]), goutW _⟩
    · have hk1 : ¬ (k : Int) < (ds.length : Int) := by omega
      go_wp2_with fail
      go_ret2
      have e : r = (0, false) := by rw [HR.out]; unfold firstD; rw [firstN_none fun j hj => HK.out j (by omega)]
      exact ⟨ret_pb (by rw [e]) (by rw [e]), goutW _⟩
set_option maxHeartbeats 1000000 in
set_option maxRecDepth 100000 in
theorem decls52_calls (nm : ByteArray) (wd ln : Int) (ds : List S44) (bd : List S77) (A3 : Option Addr) (c3 : Nat) (A4 : Option Addr) (c4 : Nat) (b1 : Nat) (W : World) (hlm : ds.length ≤ 1048576) (hb1 : W.heap[b1]? = some (.cells #[.func (.func 52) #[] #[]] 90 (0, 0))) (f : Nat → Bool)
    (hc : ∀ X i, Below W.heap.size W X → i < ds.length → Calls Try.prog 52 #[.agg #[.string nm, .int .i64 wd, .int .i64 ln, .slice A3 ds.length c3, .slice A4 bd.length c4], .int .i64 (i : Int)] X fun e w' => e = .returned (.bool (f i)) ∧ Below X.heap.size X w') (r : Int × Bool) (hr : r = firstD f ds.length) :
    Calls Try.prog 91 #[.agg #[.string nm, .int .i64 wd, .int .i64 ln, .slice A3 ds.length c3, .slice A4 bd.length c4], .pointer (some ⟨b1, 0, none⟩)] W fun e w' => e = .returned (.tuple #[.int .i64 r.1, .bool r.2]) ∧ Below W.heap.size W w' := by
  have gout : ∀ {o : Obj} (g : G (W.alloc o)), Below W.heap.size W g.W := fun g => ((Below.refl _ _).alloc (Nat.le_refl _) _).trans (g.below.mono (by simp))
  have HC := Aside0.mk hc
  have HR := Aside0.mk hr
  have l1 := blk_lt hb1
  have y0 : W.cell? ⟨b1, 0, none⟩ = some (.func (.func 52) #[] #[]) := (blk_cell hb1 0).trans rfl
  clear hc hb1 hr
  go_enter Try.func91, Try.ntmps91
  go_upto_region 1 with (fail)
  refine wp_grown0 ?_
  intro gg
  have goutW : ∀ (g : G (gw0 gg)), Below W.heap.size W g.W := fun g => gout g
  go_wp2_with fail
  go_loopw [9] (fun i X => ∃ (k : Nat) (g : G (gw0 gg)), i = .int .i64 k ∧ X = g.W ∧ k ≤ ds.length ∧ Aside0 (∀ j, j < k → f j = false)) (fun i _ => ds.length - (intOf i).toNat)
  case atStart => exact ⟨0, gg, rfl, rfl, Nat.zero_le _, ⟨fun j hj => absurd hj (Nat.not_lt_zero _)⟩⟩
  case round =>
    obtain ⟨k, gx, rfl, rfl, hk, HK⟩ := hrel
    by_cases hlt : k < ds.length
    · have hk1 : (k : Int) < (ds.length : Int) := by omega
      go_wp2_with fail
      refine (call_of (g := gx) (HC.out gx.W k (goutW gx) hlt)).mono ?_
      rintro _ _ ⟨rfl, g2, rfl⟩
      cases hf : f k
      · have HF := Aside0.mk hf
        clear hf
        go_wp2_with fail
        exact ⟨⟨k + 1, g2, by go_num, rfl, by omega, ⟨fun j hj => (Decidable.em (j = k)).elim (fun h => h ▸ HF.out) (fun h => HK.out j (by omega))⟩⟩, by simp [intOf]; omega⟩
      · have HF := Aside0.mk hf
        clear hf
        go_wp2_with fail
        go_ret2
        have e : r = ((k : Int), true) := by rw [HR.out]; unfold firstD; rw [firstN_some hlt HF.out HK.out]
        exact ⟨ret_pb (by rw [e]) (by rw [e]), goutW _⟩
    · have hk1 : ¬ (k : Int) < (ds.length : Int) := by omega
      go_wp2_with fail
      go_ret2
      have e : r = (0, false) := by rw [HR.out]; unfold firstD; rw [firstN_none fun j hj => HK.out j (by omega)]
      exact ⟨ret_pb (by rw [e]) (by rw [e]), goutW _⟩
set_option maxHeartbeats 1000000 in
set_option maxRecDepth 100000 in
theorem decls53_calls (nm : ByteArray) (wd ln : Int) (ds : List S44) (bd : List S77) (A3 : Option Addr) (c3 : Nat) (A4 : Option Addr) (c4 : Nat) (b1 : Nat) (W : World) (hlm : ds.length ≤ 1048576) (hb1 : W.heap[b1]? = some (.cells #[.func (.func 53) #[] #[]] 90 (0, 0))) (f : Nat → Bool)
    (hc : ∀ X i, Below W.heap.size W X → i < ds.length → Calls Try.prog 53 #[.agg #[.string nm, .int .i64 wd, .int .i64 ln, .slice A3 ds.length c3, .slice A4 bd.length c4], .int .i64 (i : Int)] X fun e w' => e = .returned (.bool (f i)) ∧ Below X.heap.size X w') (r : Int × Bool) (hr : r = firstD f ds.length) :
    Calls Try.prog 91 #[.agg #[.string nm, .int .i64 wd, .int .i64 ln, .slice A3 ds.length c3, .slice A4 bd.length c4], .pointer (some ⟨b1, 0, none⟩)] W fun e w' => e = .returned (.tuple #[.int .i64 r.1, .bool r.2]) ∧ Below W.heap.size W w' := by
  have gout : ∀ {o : Obj} (g : G (W.alloc o)), Below W.heap.size W g.W := fun g => ((Below.refl _ _).alloc (Nat.le_refl _) _).trans (g.below.mono (by simp))
  have HC := Aside0.mk hc
  have HR := Aside0.mk hr
  have l1 := blk_lt hb1
  have y0 : W.cell? ⟨b1, 0, none⟩ = some (.func (.func 53) #[] #[]) := (blk_cell hb1 0).trans rfl
  clear hc hb1 hr
  go_enter Try.func91, Try.ntmps91
  go_upto_region 1 with (fail)
  refine wp_grown0 ?_
  intro gg
  have goutW : ∀ (g : G (gw0 gg)), Below W.heap.size W g.W := fun g => gout g
  go_wp2_with fail
  go_loopw [9] (fun i X => ∃ (k : Nat) (g : G (gw0 gg)), i = .int .i64 k ∧ X = g.W ∧ k ≤ ds.length ∧ Aside0 (∀ j, j < k → f j = false)) (fun i _ => ds.length - (intOf i).toNat)
  case atStart => exact ⟨0, gg, rfl, rfl, Nat.zero_le _, ⟨fun j hj => absurd hj (Nat.not_lt_zero _)⟩⟩
  case round =>
    obtain ⟨k, gx, rfl, rfl, hk, HK⟩ := hrel
    by_cases hlt : k < ds.length
    · have hk1 : (k : Int) < (ds.length : Int) := by omega
      go_wp2_with fail
      refine (call_of (g := gx) (HC.out gx.W k (goutW gx) hlt)).mono ?_
      rintro _ _ ⟨rfl, g2, rfl⟩
      cases hf : f k
      · have HF := Aside0.mk hf
        clear hf
        go_wp2_with fail
        exact ⟨⟨k + 1, g2, by go_num, rfl, by omega, ⟨fun j hj => (Decidable.em (j = k)).elim (fun h => h ▸ HF.out) (fun h => HK.out j (by omega))⟩⟩, by simp [intOf]; omega⟩
      · have HF := Aside0.mk hf
        clear hf
        go_wp2_with fail
        go_ret2
        have e : r = ((k : Int), true) := by rw [HR.out]; unfold firstD; rw [firstN_some hlt HF.out HK.out]
        exact ⟨ret_pb (by rw [e]) (by rw [e]), goutW _⟩
    · have hk1 : ¬ (k : Int) < (ds.length : Int) := by omega
      go_wp2_with fail
      go_ret2
      have e : r = (0, false) := by rw [HR.out]; unfold firstD; rw [firstN_none fun j hj => HK.out j (by omega)]
      exact ⟨ret_pb (by rw [e]) (by rw [e]), goutW _⟩
set_option maxHeartbeats 1000000 in
set_option maxRecDepth 100000 in
theorem decls54_calls (nm : ByteArray) (wd ln : Int) (ds : List S44) (bd : List S77) (A3 : Option Addr) (c3 : Nat) (A4 : Option Addr) (c4 : Nat) (b1 : Nat) (W : World) (hlm : ds.length ≤ 1048576) (hb1 : W.heap[b1]? = some (.cells #[.func (.func 54) #[] #[]] 90 (0, 0))) (f : Nat → Bool)
    (hc : ∀ X i, Below W.heap.size W X → i < ds.length → Calls Try.prog 54 #[.agg #[.string nm, .int .i64 wd, .int .i64 ln, .slice A3 ds.length c3, .slice A4 bd.length c4], .int .i64 (i : Int)] X fun e w' => e = .returned (.bool (f i)) ∧ Below X.heap.size X w') (r : Int × Bool) (hr : r = firstD f ds.length) :
    Calls Try.prog 91 #[.agg #[.string nm, .int .i64 wd, .int .i64 ln, .slice A3 ds.length c3, .slice A4 bd.length c4], .pointer (some ⟨b1, 0, none⟩)] W fun e w' => e = .returned (.tuple #[.int .i64 r.1, .bool r.2]) ∧ Below W.heap.size W w' := by
  have gout : ∀ {o : Obj} (g : G (W.alloc o)), Below W.heap.size W g.W := fun g => ((Below.refl _ _).alloc (Nat.le_refl _) _).trans (g.below.mono (by simp))
  have HC := Aside0.mk hc
  have HR := Aside0.mk hr
  have l1 := blk_lt hb1
  have y0 : W.cell? ⟨b1, 0, none⟩ = some (.func (.func 54) #[] #[]) := (blk_cell hb1 0).trans rfl
  clear hc hb1 hr
  go_enter Try.func91, Try.ntmps91
  go_upto_region 1 with (fail)
  refine wp_grown0 ?_
  intro gg
  have goutW : ∀ (g : G (gw0 gg)), Below W.heap.size W g.W := fun g => gout g
  go_wp2_with fail
  go_loopw [9] (fun i X => ∃ (k : Nat) (g : G (gw0 gg)), i = .int .i64 k ∧ X = g.W ∧ k ≤ ds.length ∧ Aside0 (∀ j, j < k → f j = false)) (fun i _ => ds.length - (intOf i).toNat)
  case atStart => exact ⟨0, gg, rfl, rfl, Nat.zero_le _, ⟨fun j hj => absurd hj (Nat.not_lt_zero _)⟩⟩
  case round =>
    obtain ⟨k, gx, rfl, rfl, hk, HK⟩ := hrel
    by_cases hlt : k < ds.length
    · have hk1 : (k : Int) < (ds.length : Int) := by omega
      go_wp2_with fail
      refine (call_of (g := gx) (HC.out gx.W k (goutW gx) hlt)).mono ?_
      rintro _ _ ⟨rfl, g2, rfl⟩
      cases hf : f k
      · have HF := Aside0.mk hf
        clear hf
        go_wp2_with fail
        exact ⟨⟨k + 1, g2, by go_num, rfl, by omega, ⟨fun j hj => (Decidable.em (j = k)).elim (fun h => h ▸ HF.out) (fun h => HK.out j (by omega))⟩⟩, by simp [intOf]; omega⟩
      · have HF := Aside0.mk hf
        clear hf
        go_wp2_with fail
        go_ret2
        have e : r = ((k : Int), true) := by rw [HR.out]; unfold firstD; rw [firstN_some hlt HF.out HK.out]
        exact ⟨ret_pb (by rw [e]) (by rw [e]), goutW _⟩
    · have hk1 : ¬ (k : Int) < (ds.length : Int) := by omega
      go_wp2_with fail
      go_ret2
      have e : r = (0, false) := by rw [HR.out]; unfold firstD; rw [firstN_none fun j hj => HK.out j (by omega)]
      exact ⟨ret_pb (by rw [e]) (by rw [e]), goutW _⟩
set_option maxHeartbeats 1000000 in
set_option maxRecDepth 100000 in
theorem c45_calls (nm : ByteArray) (wd ln : Int) (ds : List S44) (bd : List S77) (A3 : Option Addr) (c3 : Nat) (A4 : Option Addr) (c4 : Nat) (W : World)  (b : Bool) (hb : b = widthB wd) :
    Calls Try.prog 45 #[.agg #[.string nm, .int .i64 wd, .int .i64 ln, .slice A3 ds.length c3, .slice A4 bd.length c4]] W fun e w' => e = .returned (.bool b) ∧ Below W.heap.size W w' := by
  have gout : ∀ {o : Obj} (g : G (W.alloc o)), Below W.heap.size W g.W := fun g => ((Below.refl _ _).alloc (Nat.le_refl _) _).trans (g.below.mono (by simp))
  have HR := Aside0.mk hb
  clear hb
  go_enter Try.func45, Try.ntmps45
  go_upto_region 1 with (fail)
  refine wp_grown0 ?_
  intro gg
  by_cases h : wd ≥ 4
  · have H := Aside0.mk h
    go_wp2_with fail
    refine (call_of (g := gg) (wpower_calls wd 64 gg.W (by decide) _ rfl)).mono ?_
    rintro _ _ ⟨rfl, gg, rfl⟩
    go_wp2_with fail
    go_ret
    refine ⟨ret_bool2 ?_, gout _⟩
    rw [HR.out]
    have h4 := H.out
    by_cases h64 : wd ≤ 64
    · rw [decide_eq_true h64, Bool.true_and]
      unfold pow2B widthB
      have e1 : (wd == 1) = false := by simp; omega
      have e2 : (wd == 2) = false := by simp; omega
      have e3 : (wd == 128) = false := by simp; omega
      have e4 : (wd == 256) = false := by simp; omega
      rw [e1, e2, e3, e4]
      simp
    · rw [decide_eq_false h64, Bool.false_and]
      unfold widthB
      have e1 : (wd == 4) = false := by simp; omega
      have e2 : (wd == 8) = false := by simp; omega
      have e3 : (wd == 16) = false := by simp; omega
      have e4 : (wd == 32) = false := by simp; omega
      have e5 : (wd == 64) = false := by simp; omega
      rw [e1, e2, e3, e4, e5]
      rfl
  · have H := Aside0.mk h
    go_wp2_with fail
    go_ret
    refine ⟨ret_bool2 ?_, gout _⟩
    rw [HR.out]
    have h4 := H.out
    unfold widthB
    have e1 : (wd == 4) = false := by simp; omega
    have e2 : (wd == 8) = false := by simp; omega
    have e3 : (wd == 16) = false := by simp; omega
    have e4 : (wd == 32) = false := by simp; omega
    have e5 : (wd == 64) = false := by simp; omega
    rw [e1, e2, e3, e4, e5]
    rfl
set_option maxHeartbeats 1000000 in
set_option maxRecDepth 100000 in
theorem c47_calls (nm : ByteArray) (wd ln : Int) (ds : List S44) (bd : List S77) (A3 : Option Addr) (c3 : Nat) (A4 : Option Addr) (c4 : Nat) (W : World)  (b : Bool) (hb : b = pow2B ln) :
    Calls Try.prog 47 #[.agg #[.string nm, .int .i64 wd, .int .i64 ln, .slice A3 ds.length c3, .slice A4 bd.length c4]] W fun e w' => e = .returned (.bool b) ∧ Below W.heap.size W w' := by
  have gout : ∀ {o : Obj} (g : G (W.alloc o)), Below W.heap.size W g.W := fun g => ((Below.refl _ _).alloc (Nat.le_refl _) _).trans (g.below.mono (by simp))
  have HR := Aside0.mk hb
  clear hb
  go_enter Try.func47, Try.ntmps47
  go_upto_region 1 with (fail)
  refine wp_grown0 ?_
  intro gg
  go_wp2_with fail
  refine (call_of (g := gg) (wpower_calls ln 256 gg.W (by decide) b (by
    rw [HR.out]
    by_cases h : ln ≤ 256
    · rw [decide_eq_true h, Bool.true_and]
    · rw [decide_eq_false h, Bool.false_and, pow_out (.inr (by omega))]))).mono ?_
  rintro _ _ ⟨rfl, gg, rfl⟩
  go_wp2_with fail
  go_ret
  exact ⟨rfl, gout _⟩
set_option maxHeartbeats 1000000 in
set_option maxRecDepth 100000 in
theorem c48_calls (nm : ByteArray) (wd ln : Int) (ds : List S44) (bd : List S77) (A3 : Option Addr) (c3 : Nat) (A4 : Option Addr) (c4 : Nat) (W : World) (hlm : ds.length ≤ 1048576) (b : Bool) (hb : b = decide (ds.length ≤ 256)) :
    Calls Try.prog 48 #[.agg #[.string nm, .int .i64 wd, .int .i64 ln, .slice A3 ds.length c3, .slice A4 bd.length c4]] W fun e w' => e = .returned (.bool b) ∧ Below W.heap.size W w' := by
  have gout : ∀ {o : Obj} (g : G (W.alloc o)), Below W.heap.size W g.W := fun g => ((Below.refl _ _).alloc (Nat.le_refl _) _).trans (g.below.mono (by simp))
  have HR := Aside0.mk hb
  clear hb
  go_enter Try.func48, Try.ntmps48
  go_upto_region 1 with (fail)
  refine wp_grown0 ?_
  intro gg
  by_cases h : ds.length ≤ 256
  · have h' : (ds.length : Int) ≤ 256 := by omega
    have H := Aside0.mk h
    clear h
    go_wp2_with fail
    go_ret
    exact ⟨ret_bool2 (by rw [HR.out, decide_eq_true H.out]), gout _⟩
  · have h' : ¬ (ds.length : Int) ≤ 256 := by omega
    have H := Aside0.mk h
    clear h
    go_wp2_with fail
    go_ret
    exact ⟨ret_bool2 (by rw [HR.out, decide_eq_false (by have := H.out; omega)]), gout _⟩
end Go.Proofs.Ytfcahachdpjfoaa.L
end
