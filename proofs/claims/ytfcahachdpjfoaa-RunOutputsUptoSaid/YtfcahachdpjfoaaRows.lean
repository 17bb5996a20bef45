/-
  NARROWER THAN 'FOR EVERY INPUT', by the rows' own cells (each row's printed sentence says how): WfChecks: loops · WfKinds: loops · WfCalled: loops · RunOutputs: loops.
  DERIVED. THE GIVEN ROWS OF THIS SEAT. 5 by the template 'for every input the law returns true; each argument reads behind the call as it read before'; 0 by the template 'total and deterministic' (their statements: YtfcahachdpjfoaaTotals.lean).
  GIVEN WITH THE SEED: the statements are not yours to turn. If you find one false, say at which input.
  Laid BY PROGRAM, IN A SANDBOX (cutbox-rows.mjs): the forced cells as the released guide's own fill.sh prints them over the translation f425a2b87c67a935… (all of the seat's roots in one cut). By AI agents, Wed Nov 11 2026. No macro, syntax, notation, axiom, sorry.
-/
import Derived.Test.YtfcahachdpjfoaaChecked
import GoSem.Claim
import GoSem.ClaimJoined
import GoSem.ClaimMapViews
import Derived.JoinedTies
import Derived.KernelRfl
namespace Go.Proofs.Ytfcahachdpjfoaa
/- THE CELL 'sum', in the pinned program and in every row, IS THE sha256 OF THE DUMP (.gsa) THAT YtfcahachdpjfoaaProg.lean LOADS. Nothing in Lean hashes anything: it is a label: what it is worth is what the hold of that sum in a sandbox is worth. -/
noncomputable def Try.pinned : Pinned := { name := "ytfcahachdpjfoaa", sum := "f425a2b87c67a935ec43686817c9758b9b7e144886c17656ba3be2a0d5754433", checked := Try.checked }
namespace Rows
def none {H : Type} : Left H := { results := [], args := [] }

/-- 'cadencelaw17.RunDiffers': WHATEVER THE INPUT: true; the input reads as it did. -/
def runDiffersSpec : ChangeSpec := { name := "runDiffers", fn := fun _ => fun
  | [d1, d2] => { results := [.lit (.bool true)], args := [d1, d2] }
  | _ => none }
def runDiffersRow : OpenClaim := { program := "ytfcahachdpjfoaa", sum := "f425a2b87c67a935ec43686817c9758b9b7e144886c17656ba3be2a0d5754433", func := "cadence/cadencelaw17.RunDiffers", spec := "runDiffers", apart := false }
def RunDiffersSaid : Prop := runDiffersRow.holds Try.pinned (OpenSpec.ofChange runDiffersSpec)

/-- ITS FALSE NEIGHBOUR: 'it returns false'. Refute it at one input. -/
def runDiffersWrong : ChangeSpec := { name := "runDiffers", fn := fun _ => fun
  | [d1, d2] => { results := [.lit (.bool false)], args := [d1, d2] }
  | _ => none }
def RunDiffersWrongFalsely : Prop := runDiffersRow.holds Try.pinned (OpenSpec.ofChange runDiffersWrong)

/-- 'cadencelaw16.WfChecks': WHATEVER THE INPUT: true; the input reads as it did. -/
def wfChecksSpec : ChangeSpec := { name := "wfChecks", fn := fun _ => fun
  | [d] => { results := [.lit (.bool true)], args := [d] }
  | _ => none }
def wfChecksRow : OpenClaim := { program := "ytfcahachdpjfoaa", sum := "f425a2b87c67a935ec43686817c9758b9b7e144886c17656ba3be2a0d5754433", func := "cadence/cadencelaw16.WfChecks", spec := "wfChecks", unfollowed := true, recurses := true, loops := true, apart := false }
def WfChecksSaid : Prop := wfChecksRow.holds Try.pinned (OpenSpec.ofChange wfChecksSpec)

/-- ITS FALSE NEIGHBOUR: 'it returns false'. Refute it at one input. -/
def wfChecksWrong : ChangeSpec := { name := "wfChecks", fn := fun _ => fun
  | [d] => { results := [.lit (.bool false)], args := [d] }
  | _ => none }
def WfChecksWrongFalsely : Prop := wfChecksRow.holds Try.pinned (OpenSpec.ofChange wfChecksWrong)

/-- 'cadencelaw16.WfKinds': WHATEVER THE INPUT: true; the input reads as it did. -/
def wfKindsSpec : ChangeSpec := { name := "wfKinds", fn := fun _ => fun
  | [d1, d2] => { results := [.lit (.bool true)], args := [d1, d2] }
  | _ => none }
def wfKindsRow : OpenClaim := { program := "ytfcahachdpjfoaa", sum := "f425a2b87c67a935ec43686817c9758b9b7e144886c17656ba3be2a0d5754433", func := "cadence/cadencelaw16.WfKinds", spec := "wfKinds", unfollowed := true, recurses := true, loops := true, apart := false }
def WfKindsSaid : Prop := wfKindsRow.holds Try.pinned (OpenSpec.ofChange wfKindsSpec)

/-- ITS FALSE NEIGHBOUR: 'it returns false'. Refute it at one input. -/
def wfKindsWrong : ChangeSpec := { name := "wfKinds", fn := fun _ => fun
  | [d1, d2] => { results := [.lit (.bool false)], args := [d1, d2] }
  | _ => none }
def WfKindsWrongFalsely : Prop := wfKindsRow.holds Try.pinned (OpenSpec.ofChange wfKindsWrong)

/-- 'cadencelaw16.WfCalled': WHATEVER THE INPUT: true; the input reads as it did. -/
def wfCalledSpec : ChangeSpec := { name := "wfCalled", fn := fun _ => fun
  | [d1, d2, d3] => { results := [.lit (.bool true)], args := [d1, d2, d3] }
  | _ => none }
def wfCalledRow : OpenClaim := { program := "ytfcahachdpjfoaa", sum := "f425a2b87c67a935ec43686817c9758b9b7e144886c17656ba3be2a0d5754433", func := "cadence/cadencelaw16.WfCalled", spec := "wfCalled", unfollowed := true, recurses := true, loops := true, apart := false }
def WfCalledSaid : Prop := wfCalledRow.holds Try.pinned (OpenSpec.ofChange wfCalledSpec)

/-- ITS FALSE NEIGHBOUR: 'it returns false'. Refute it at one input. -/
def wfCalledWrong : ChangeSpec := { name := "wfCalled", fn := fun _ => fun
  | [d1, d2, d3] => { results := [.lit (.bool false)], args := [d1, d2, d3] }
  | _ => none }
def WfCalledWrongFalsely : Prop := wfCalledRow.holds Try.pinned (OpenSpec.ofChange wfCalledWrong)

/-- 'cadencelaw17.RunOutputs': WHATEVER THE INPUT: true; the input reads as it did. -/
def runOutputsSpec : ChangeSpec := { name := "runOutputs", fn := fun _ => fun
  | [d1, d2] => { results := [.lit (.bool true)], args := [d1, d2] }
  | _ => none }
def runOutputsRow : OpenClaim := { program := "ytfcahachdpjfoaa", sum := "f425a2b87c67a935ec43686817c9758b9b7e144886c17656ba3be2a0d5754433", func := "cadence/cadencelaw17.RunOutputs", spec := "runOutputs", unfollowed := true, recurses := true, loops := true, apart := false }
def RunOutputsSaid : Prop := runOutputsRow.holds Try.pinned (OpenSpec.ofChange runOutputsSpec)

/-- ITS FALSE NEIGHBOUR: 'it returns false'. Refute it at one input. -/
def runOutputsWrong : ChangeSpec := { name := "runOutputs", fn := fun _ => fun
  | [d1, d2] => { results := [.lit (.bool false)], args := [d1, d2] }
  | _ => none }
def RunOutputsWrongFalsely : Prop := runOutputsRow.holds Try.pinned (OpenSpec.ofChange runOutputsWrong)

/- THE SECOND FORM. 'bulk': how many values and letters a reading holds, each counted each time it is reached (what is shared counts as often as it is met; a slice's spare places count too). A statement '..UptoSaid' is the law's where the arguments, and the package variables that the reading takes, are together of bulk at most 1048576: NARROWER than '..Said'. Prove '..Said' where nothing that the law and all that it calls make is longer than what came in: it says more and counts as full. Else prove '..UptoSaid'. A law counts once. -/
mutual
def uptoBulk {H : Type} : DataW H → Nat
  | .lit (.string bytes) => bytes.length + 1
  | .lit _ => 1
  | .nil => 1
  | .ptr d => uptoBulk d + 1
  | .slice elems spare => uptoBulkAll elems + uptoBulkAll spare + 1
  | .agg parts => uptoBulkAll parts + 1
  | .iface _ d => uptoBulk d + 1
  | .map entries => uptoBulkEntries entries + 1
  | .held _ => 1
def uptoBulkAll {H : Type} : List (DataW H) → Nat
  | [] => 0
  | d :: r => uptoBulk d + uptoBulkAll r
def uptoBulkEntries {H : Type} : List (Lit × DataW H) → Nat
  | [] => 0
  | x :: r => uptoBulkEntry x + uptoBulkEntries r
def uptoBulkEntry {H : Type} : Lit × DataW H → Nat
  | (.string bytes, d) => bytes.length + uptoBulk d + 1
  | (_, d) => uptoBulk d + 1
 end
def uptoSmall : (H : Type) → List (DataW H) → Bool := fun _ ds => decide (uptoBulkAll ds ≤ 1048576)
def OpenSpec.upto (s : _root_.Go.ChangeSpec) : _root_.Go.OpenSpec := { _root_.Go.OpenSpec.ofChange s with cond := some uptoSmall }

/-- 'cadencelaw17.RunDiffers', WHERE WHAT IT READS IS OF BULK AT MOST 1048576: true; the input reads as it did. -/
def runDiffersUptoRow : OpenClaim := { program := "ytfcahachdpjfoaa", sum := "f425a2b87c67a935ec43686817c9758b9b7e144886c17656ba3be2a0d5754433", func := "cadence/cadencelaw17.RunDiffers", spec := "runDiffers", apart := false, narrowed := true }
def RunDiffersUptoSaid : Prop := runDiffersUptoRow.holds Try.pinned (OpenSpec.upto runDiffersSpec)

/-- 'cadencelaw16.WfChecks', WHERE WHAT IT READS IS OF BULK AT MOST 1048576: true; the input reads as it did. -/
def wfChecksUptoRow : OpenClaim := { program := "ytfcahachdpjfoaa", sum := "f425a2b87c67a935ec43686817c9758b9b7e144886c17656ba3be2a0d5754433", func := "cadence/cadencelaw16.WfChecks", spec := "wfChecks", unfollowed := true, recurses := true, loops := true, apart := false, narrowed := true }
def WfChecksUptoSaid : Prop := wfChecksUptoRow.holds Try.pinned (OpenSpec.upto wfChecksSpec)

/-- 'cadencelaw16.WfKinds', WHERE WHAT IT READS IS OF BULK AT MOST 1048576: true; the input reads as it did. -/
def wfKindsUptoRow : OpenClaim := { program := "ytfcahachdpjfoaa", sum := "f425a2b87c67a935ec43686817c9758b9b7e144886c17656ba3be2a0d5754433", func := "cadence/cadencelaw16.WfKinds", spec := "wfKinds", unfollowed := true, recurses := true, loops := true, apart := false, narrowed := true }
def WfKindsUptoSaid : Prop := wfKindsUptoRow.holds Try.pinned (OpenSpec.upto wfKindsSpec)

/-- 'cadencelaw16.WfCalled', WHERE WHAT IT READS IS OF BULK AT MOST 1048576: true; the input reads as it did. -/
def wfCalledUptoRow : OpenClaim := { program := "ytfcahachdpjfoaa", sum := "f425a2b87c67a935ec43686817c9758b9b7e144886c17656ba3be2a0d5754433", func := "cadence/cadencelaw16.WfCalled", spec := "wfCalled", unfollowed := true, recurses := true, loops := true, apart := false, narrowed := true }
def WfCalledUptoSaid : Prop := wfCalledUptoRow.holds Try.pinned (OpenSpec.upto wfCalledSpec)

/-- 'cadencelaw17.RunOutputs', WHERE WHAT IT READS IS OF BULK AT MOST 1048576: true; the input reads as it did. -/
def runOutputsUptoRow : OpenClaim := { program := "ytfcahachdpjfoaa", sum := "f425a2b87c67a935ec43686817c9758b9b7e144886c17656ba3be2a0d5754433", func := "cadence/cadencelaw17.RunOutputs", spec := "runOutputs", unfollowed := true, recurses := true, loops := true, apart := false, narrowed := true }
def RunOutputsUptoSaid : Prop := runOutputsUptoRow.holds Try.pinned (OpenSpec.upto runOutputsSpec)

end Rows
end Go.Proofs.Ytfcahachdpjfoaa
