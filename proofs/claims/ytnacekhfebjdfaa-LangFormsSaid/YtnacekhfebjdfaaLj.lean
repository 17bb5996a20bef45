/- The law, of any value that is laid as a program. -/
import Derived.Test.YtnacekhfebjdfaaLi
import Derived.Test.YtnacekhfebjdfaaOt
set_option linter.unusedVariables false
namespace Go.Proofs.Ytnacekhfebjdfaa.L
open Go.RowKit Go.Proofs.YtnacekhfebjdfaaW.PrintWords Go.Proofs.YtnacekhfebjdfaaW.PrintLast Go.Proofs.YtnacekhfebjdfaaW.PrintMore

theorem law (v0 : Value) (x0 : Ot.Prog) (w : World) (s0 : ∃ cs, v0 = .agg cs ∧ cs.size = Try.prog.cellsOf 26) (k0 : Ot.opensP_K w x0 v0.cells.toList) (g0 : Ot.opensP_good x0) {m0 : Nat} (_ : Ot.opensP_bulk x0 ≤ m0) :
    Calls Try.prog 4 #[v0] w fun e w' => e = .returned (.bool true) ∧ Below w.heap.size w w' := by
  obtain ⟨A3, c3, A4, c4, rfl, l3, g3, l4, g4⟩ := Ot.prog_of_K (s0.imp fun _ h => h.1) k0
  exact law_walk x0.nm x0.wd x0.ln x0.ds x0.bd A3 c3 A4 c4 w g3 l3 g4 l4
end Go.Proofs.Ytnacekhfebjdfaa.L
