import Derived.Test.YtfcahachdpjfoaaRows
import Derived.Test.YtfcahachdpjfoaaRd
import Derived.Test.YtfcahachdpjfoaaOp
set_option linter.unusedVariables false
set_option linter.ambiguousOpen false
set_option linter.unusedSimpArgs false
namespace Go.Proofs.Ytfcahachdpjfoaa.Ro
open Go.RowKit Go.Proofs.Ytfcahachdpjfoaa.PRunDiffers Go.Proofs.YtfcahachdpjfoaaW.PrintWords Go.Proofs.YtfcahachdpjfoaaW.PrintLast Go.Proofs.YtfcahachdpjfoaaW.PrintMore Go.Proofs.Ytfcahachdpjfoaa.Op

theorem all_sum {H : Type} (l : List (DataW H)) : Rows.uptoBulkAll l = (l.map Rows.uptoBulk).sum := by
  induction l with
  | nil => rfl
  | cons d r ih => simp [Rows.uptoBulkAll, ih]
theorem bulk {H : Type} : Bulk (Rows.uptoBulk (H := H)) where
  str := fun l => by simp [Rows.uptoBulk]
  one := fun d => by
    cases d with
    | lit l => cases l <;> simp [Rows.uptoBulk]
    | nil => simp [Rows.uptoBulk]
    | ptr d => simp [Rows.uptoBulk]
    | slice elems spare => simp [Rows.uptoBulk]
    | agg parts => simp [Rows.uptoBulk]
    | iface t d => simp [Rows.uptoBulk]
    | map entries => simp [Rows.uptoBulk]
    | held h => simp [Rows.uptoBulk]
  slice := fun es ss => by simp only [Rows.uptoBulk, all_sum]; omega
  agg := fun ps => by simp only [Rows.uptoBulk, all_sum]; omega

section
variable {H : Type} {enc : TypeId × Value → H} {w : World} (n : Nat)
theorem opens62 : Opens enc Try.prog w Rows.uptoBulk n 62 k62 (fun _ => True) (fun _ => 1) := by
  have h : Opens enc Try.prog w Rows.uptoBulk n 62 (Kd.pair (Kd.int .i64) (Kd.pair (Kd.int .u64) (Kd.int .u64))) _ _ := opens_struct bulk (fs := [(3, 0), (60, 1), (60, 2)]) Try.underlying62 rfl fun m _ =>
    opensF_cons (opens_int bulk Try.underlying3) (by kernel_rfl) (opensF_cons (opens_int bulk Try.underlying60) (by kernel_rfl) (opensF_last (opens_int bulk Try.underlying60) (Nat.le_of_eq (by kernel_rfl))))
  exact opens_weaken (opens_iso (f := fun x : S62 => (x.f0, x.f1, x.f2)) (fun p => ⟨p.1, p.2.1, p.2.2⟩) (fun _ => rfl) h) (fun _ _ => trivial) (fun _ => by simp)
abbrev opens22_K (w : World) : List S62 → List Value → Prop := (Kd.slice 62 k62).K w
abbrev opens22_good (xs : List S62) : Prop := xs.length * 24 ≤ 140737488351232
abbrev opens22_bulk (xs : List S62) : Nat := xs.length + 1
theorem sum_ones {α : Type} (l : List α) : (l.map fun _ => 1).sum = l.length := by induction l <;> simp_all [Nat.add_comm]
theorem opens22 : Opens enc Try.prog w Rows.uptoBulk n 22 (Kd.slice 62 k62) opens22_good opens22_bulk :=
  opens_weaken (opens_slice bulk (bytes := 24) Try.underlying22 (by kernel_rfl) (by kernel_rfl) (by decide) fun m _ => opens62 m) (fun _ h => h.1) (fun xs => by rw [sum_ones]; exact Nat.le_refl _)
end

/-- A slice's value, by its cells. -/
theorem slice_of_K {α : Type} {d : Kd α} {e : Nat} {w : World} {xs : List α} {v : Value} (hs : ∃ a l c, v = .slice a l c) (h : (Kd.slice e d).K w xs v.cells.toList) : ∃ A c, v = .slice A xs.length c ∧ xs.length ≤ c ∧ d.C w A xs.length xs := by
  obtain ⟨a, l, c, rfl⟩ := hs
  obtain ⟨A, c', e1, hl, hc⟩ := h
  simp [Value.cells] at e1
  obtain ⟨rfl, rfl, rfl⟩ := e1
  exact ⟨a, c, rfl, hl, hc⟩

theorem law (v0 : Value) (x0 : List S62) (v1 : Value) (x1 : List S62) (w : World) (s0 : ∃ a l c, v0 = .slice a l c) (k0 : opens22_K w x0 v0.cells.toList) (g0 : opens22_good x0) {m0 : Nat} (_ : opens22_bulk x0 ≤ m0) (s1 : ∃ a l c, v1 = .slice a l c) (k1 : opens22_K w x1 v1.cells.toList) (g1 : opens22_good x1) {m1 : Nat} (_ : opens22_bulk x1 ≤ m1) :
    Calls Try.prog 3 #[v0, v1] w fun e w' => e = .returned (.bool true) ∧ Below w.heap.size w w' := by
  obtain ⟨A0, c0, rfl, l0, h0⟩ := slice_of_K s0 k0
  obtain ⟨A1, c1, rfl, l1, h1⟩ := slice_of_K s1 k1
  obtain ⟨k, h⟩ := Pure.RunDiffers x0 x1 (by have := g0; unfold opens22_good at this; omega) (by have := g1; unfold opens22_good at this; omega)
  refine (cadencelaw17_RunDiffers.calls k A0 c0 x0 A1 c1 x1 true w h0 l0 h1 l1 h).mono ?_
  rintro e w' ⟨rfl, hd⟩
  exact ⟨rfl, hd⟩
end Go.Proofs.Ytfcahachdpjfoaa.Ro
