import Derived.Below
import Derived.BigQuiet
import Derived.WalkKit
import Derived.KernelRfl
set_option linter.unusedVariables false
namespace Go.Proofs.Ytnacekhfebjdfaa.Gr
open Go.RowKit

/-- The worlds that have grown out of this one: what was there is as it was. -/
def G (w : World) := { W : World // Below w.heap.size w W }
instance (w : World) : Nonempty (G w) := ⟨⟨w, Below.refl _ _⟩⟩
def G.W {w : World} (g : G w) : World := g.1
theorem G.below {w : World} (g : G w) : Below w.heap.size w g.W := g.2
theorem G.cell {w : World} (g : G w) {b o : Nat} (h : b < w.heap.size) : g.W.cell? ⟨b, o, none⟩ = w.cell? ⟨b, o, none⟩ := g.below.cell (p := ⟨b, o, none⟩) h
theorem G.cellA {w : World} (g : G w) {a : Addr} (h : a.block < w.heap.size) : g.W.cell? a = w.cell? a := g.below.cell h
theorem G.held {w : World} (g : G w) {a : Addr} {v : Value} (h : w.cell? a = some v) : g.W.cell? a = some v := (g.cellA (World.block_lt_of_cell? w a h)).trans h

section
variable {P : Program}
theorem wp_region_grown {id : Nat} {Q : Exit → Act → World → Prop} {a : Act} {w : World} {l : List Oper} (hm : P.follows .mixedOrders = true) (hB : Region.lexB .any l.toArray = true)
    (h : wpQuiet P l.toArray (fun w' => ∃ g : G w, w' = g.W) (fun a' => ∀ w', (∃ g : G w, w' = g.W) → Q .normal a' w') l a) : (Code.region id l.toArray true).wp P Q a w :=
  wp_region_quiet (C := fun w' => ∃ g : G w, w' = g.W) hm hB ⟨⟨_, (Below.refl _ _).drew⟩, rfl⟩ (by simpa using h)

theorem below_drewN (w : World) (n : Nat) : Below w.heap.size w (w.drewN n) := by
  induction n with
  | zero => exact Below.refl _ _
  | succ n ih => rw [← World.drew_drewN]; exact ih.drew
/-- A callee's contract, met in a grown world. -/
theorem call_of {f : FuncId} {args : Array Value} {w : World} {g : G w} {v : Value} (h : Calls P f args g.W fun e w' => e = .returned v ∧ Below g.W.heap.size g.W w') :
    Calls P f args g.W fun e w'' => e = .returned v ∧ ∃ g' : G w, w'' = g'.W :=
  h.mono fun _ w' ⟨he, hb⟩ => ⟨he, ⟨⟨w', g.below.trans (hb.mono g.below.size)⟩, rfl⟩⟩
theorem call_of_drawn {f : FuncId} {args : Array Value} {w : World} {g : G w} {v : Value} (h : Calls P f args g.W fun e w' => e = .returned v ∧ ∃ n, w' = g.W.drewN n) :
    Calls P f args g.W fun e w'' => e = .returned v ∧ ∃ g' : G w, w'' = g'.W :=
  call_of (h.mono fun _ w' ⟨he, n, hn⟩ => ⟨he, by subst hn; exact below_drewN _ n⟩)
end
end Go.Proofs.Ytnacekhfebjdfaa.Gr
