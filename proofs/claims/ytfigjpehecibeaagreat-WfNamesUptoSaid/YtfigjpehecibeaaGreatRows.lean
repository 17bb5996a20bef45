/-
  NARROWER THAN 'FOR EVERY INPUT', by the rows' own cells (each row's printed sentence says how): RunInputs: loops · BruteBits: loops · RunEnds: loops · RunLeaks: loops · WfNames: loops · BruteShrinks: loops · BruteDecides: loops · FlowChecks: loops · FlowLess: loops · FlowSources: loops · FlowHangs: loops · FlowTyped: loops.
  DERIVED. THE GIVEN ROWS OF THIS SEAT. 12 by the template 'for every input the law returns true; each argument reads behind the call as it read before'; 0 by the template 'total and deterministic' (their statements: YtfigjpehecibeaaGreatTotals.lean).
  GIVEN WITH THE SEED: the statements are not yours to turn. If you find one false, say at which input.
  Laid BY PROGRAM, IN A SANDBOX (cutbox-rows.mjs): the forced cells as the released guide's own fill.sh prints them over the translation 4883e578dd6a0043… (all of the seat's roots in one cut). By AI agents, Wed Nov 11 2026. No macro, syntax, notation, axiom, sorry.
-/
import Derived.Test.YtfigjpehecibeaaGreatChecked
import GoSem.Claim
import GoSem.ClaimJoined
import GoSem.ClaimMapViews
import Derived.JoinedTies
import Derived.KernelRfl
namespace Go.Proofs.YtfigjpehecibeaaGreat
/- THE CELL 'sum', in the pinned program and in every row, IS THE sha256 OF THE DUMP (.gsa) THAT YtfigjpehecibeaaGreatProg.lean LOADS. Nothing in Lean hashes anything: it is a label: what it is worth is what the hold of that sum in a sandbox is worth. -/
noncomputable def Tryz.pinned : Pinned := { name := "ytfigjpehecibeaagreat", sum := "4883e578dd6a00437366022a11f6b15ca723098f2e56cb173ec9f2596ec18f0d", checked := Tryz.checked }
namespace Rows
def none {H : Type} : Left H := { results := [], args := [] }

/-- 'cadencelaw17.RunInputs': WHATEVER THE INPUT: true; the input reads as it did. -/
def runInputsSpec : ChangeSpec := { name := "runInputs", fn := fun _ => fun
  | [d] => { results := [.lit (.bool true)], args := [d] }
  | _ => none }
def runInputsRow : OpenClaim := { program := "ytfigjpehecibeaagreat", sum := "4883e578dd6a00437366022a11f6b15ca723098f2e56cb173ec9f2596ec18f0d", func := "cadence/cadencelaw17.RunInputs", spec := "runInputs", unfollowed := true, recurses := true, loops := true, apart := false }
def RunInputsSaid : Prop := runInputsRow.holds Tryz.pinned (OpenSpec.ofChange runInputsSpec)

/-- ITS FALSE NEIGHBOUR: 'it returns false'. Refute it at one input. -/
def runInputsWrong : ChangeSpec := { name := "runInputs", fn := fun _ => fun
  | [d] => { results := [.lit (.bool false)], args := [d] }
  | _ => none }
def RunInputsWrongFalsely : Prop := runInputsRow.holds Tryz.pinned (OpenSpec.ofChange runInputsWrong)

/-- 'cadencelaw29.BruteBits': WHATEVER THE INPUT: true; the input reads as it did. -/
def bruteBitsSpec : ChangeSpec := { name := "bruteBits", fn := fun _ => fun
  | [d] => { results := [.lit (.bool true)], args := [d] }
  | _ => none }
def bruteBitsRow : OpenClaim := { program := "ytfigjpehecibeaagreat", sum := "4883e578dd6a00437366022a11f6b15ca723098f2e56cb173ec9f2596ec18f0d", func := "cadence/cadencelaw29.BruteBits", spec := "bruteBits", unfollowed := true, recurses := true, loops := true, apart := false }
def BruteBitsSaid : Prop := bruteBitsRow.holds Tryz.pinned (OpenSpec.ofChange bruteBitsSpec)

/-- ITS FALSE NEIGHBOUR: 'it returns false'. Refute it at one input. -/
def bruteBitsWrong : ChangeSpec := { name := "bruteBits", fn := fun _ => fun
  | [d] => { results := [.lit (.bool false)], args := [d] }
  | _ => none }
def BruteBitsWrongFalsely : Prop := bruteBitsRow.holds Tryz.pinned (OpenSpec.ofChange bruteBitsWrong)

/-- 'cadencelaw17.RunEnds': WHATEVER THE INPUT: true; the input reads as it did. -/
def runEndsSpec : ChangeSpec := { name := "runEnds", fn := fun _ => fun
  | [d1, d2] => { results := [.lit (.bool true)], args := [d1, d2] }
  | _ => none }
def runEndsRow : OpenClaim := { program := "ytfigjpehecibeaagreat", sum := "4883e578dd6a00437366022a11f6b15ca723098f2e56cb173ec9f2596ec18f0d", func := "cadence/cadencelaw17.RunEnds", spec := "runEnds", unfollowed := true, recurses := true, loops := true, apart := false }
def RunEndsSaid : Prop := runEndsRow.holds Tryz.pinned (OpenSpec.ofChange runEndsSpec)

/-- ITS FALSE NEIGHBOUR: 'it returns false'. Refute it at one input. -/
def runEndsWrong : ChangeSpec := { name := "runEnds", fn := fun _ => fun
  | [d1, d2] => { results := [.lit (.bool false)], args := [d1, d2] }
  | _ => none }
def RunEndsWrongFalsely : Prop := runEndsRow.holds Tryz.pinned (OpenSpec.ofChange runEndsWrong)

/-- 'cadencelaw17.RunLeaks': WHATEVER THE INPUT: true; the input reads as it did. -/
def runLeaksSpec : ChangeSpec := { name := "runLeaks", fn := fun _ => fun
  | [d1, d2, d3] => { results := [.lit (.bool true)], args := [d1, d2, d3] }
  | _ => none }
def runLeaksRow : OpenClaim := { program := "ytfigjpehecibeaagreat", sum := "4883e578dd6a00437366022a11f6b15ca723098f2e56cb173ec9f2596ec18f0d", func := "cadence/cadencelaw17.RunLeaks", spec := "runLeaks", unfollowed := true, recurses := true, loops := true, apart := false }
def RunLeaksSaid : Prop := runLeaksRow.holds Tryz.pinned (OpenSpec.ofChange runLeaksSpec)

/-- ITS FALSE NEIGHBOUR: 'it returns false'. Refute it at one input. -/
def runLeaksWrong : ChangeSpec := { name := "runLeaks", fn := fun _ => fun
  | [d1, d2, d3] => { results := [.lit (.bool false)], args := [d1, d2, d3] }
  | _ => none }
def RunLeaksWrongFalsely : Prop := runLeaksRow.holds Tryz.pinned (OpenSpec.ofChange runLeaksWrong)

/-- 'cadencelaw16.WfNames': WHATEVER THE INPUT: true; the input reads as it did. -/
def wfNamesSpec : ChangeSpec := { name := "wfNames", fn := fun _ => fun
  | [d1, d2] => { results := [.lit (.bool true)], args := [d1, d2] }
  | _ => none }
def wfNamesRow : OpenClaim := { program := "ytfigjpehecibeaagreat", sum := "4883e578dd6a00437366022a11f6b15ca723098f2e56cb173ec9f2596ec18f0d", func := "cadence/cadencelaw16.WfNames", spec := "wfNames", unfollowed := true, recurses := true, loops := true, apart := false }
def WfNamesSaid : Prop := wfNamesRow.holds Tryz.pinned (OpenSpec.ofChange wfNamesSpec)

/-- ITS FALSE NEIGHBOUR: 'it returns false'. Refute it at one input. -/
def wfNamesWrong : ChangeSpec := { name := "wfNames", fn := fun _ => fun
  | [d1, d2] => { results := [.lit (.bool false)], args := [d1, d2] }
  | _ => none }
def WfNamesWrongFalsely : Prop := wfNamesRow.holds Tryz.pinned (OpenSpec.ofChange wfNamesWrong)

/-- 'cadencelaw29.BruteShrinks': WHATEVER THE INPUT: true; the input reads as it did. -/
def bruteShrinksSpec : ChangeSpec := { name := "bruteShrinks", fn := fun _ => fun
  | [d1, d2, d3] => { results := [.lit (.bool true)], args := [d1, d2, d3] }
  | _ => none }
def bruteShrinksRow : OpenClaim := { program := "ytfigjpehecibeaagreat", sum := "4883e578dd6a00437366022a11f6b15ca723098f2e56cb173ec9f2596ec18f0d", func := "cadence/cadencelaw29.BruteShrinks", spec := "bruteShrinks", unfollowed := true, recurses := true, loops := true, apart := false }
def BruteShrinksSaid : Prop := bruteShrinksRow.holds Tryz.pinned (OpenSpec.ofChange bruteShrinksSpec)

/-- ITS FALSE NEIGHBOUR: 'it returns false'. Refute it at one input. -/
def bruteShrinksWrong : ChangeSpec := { name := "bruteShrinks", fn := fun _ => fun
  | [d1, d2, d3] => { results := [.lit (.bool false)], args := [d1, d2, d3] }
  | _ => none }
def BruteShrinksWrongFalsely : Prop := bruteShrinksRow.holds Tryz.pinned (OpenSpec.ofChange bruteShrinksWrong)

/-- 'cadencelaw29.BruteDecides': WHATEVER THE INPUT: true; the input reads as it did. -/
def bruteDecidesSpec : ChangeSpec := { name := "bruteDecides", fn := fun _ => fun
  | [d1, d2] => { results := [.lit (.bool true)], args := [d1, d2] }
  | _ => none }
def bruteDecidesRow : OpenClaim := { program := "ytfigjpehecibeaagreat", sum := "4883e578dd6a00437366022a11f6b15ca723098f2e56cb173ec9f2596ec18f0d", func := "cadence/cadencelaw29.BruteDecides", spec := "bruteDecides", unfollowed := true, recurses := true, loops := true, apart := false }
def BruteDecidesSaid : Prop := bruteDecidesRow.holds Tryz.pinned (OpenSpec.ofChange bruteDecidesSpec)

/-- ITS FALSE NEIGHBOUR: 'it returns false'. Refute it at one input. -/
def bruteDecidesWrong : ChangeSpec := { name := "bruteDecides", fn := fun _ => fun
  | [d1, d2] => { results := [.lit (.bool false)], args := [d1, d2] }
  | _ => none }
def BruteDecidesWrongFalsely : Prop := bruteDecidesRow.holds Tryz.pinned (OpenSpec.ofChange bruteDecidesWrong)

/-- 'cadencelaw18.FlowChecks': WHATEVER THE INPUT: true; the input reads as it did. -/
def flowChecksSpec : ChangeSpec := { name := "flowChecks", fn := fun _ => fun
  | [d] => { results := [.lit (.bool true)], args := [d] }
  | _ => none }
def flowChecksRow : OpenClaim := { program := "ytfigjpehecibeaagreat", sum := "4883e578dd6a00437366022a11f6b15ca723098f2e56cb173ec9f2596ec18f0d", func := "cadence/cadencelaw18.FlowChecks", spec := "flowChecks", unfollowed := true, recurses := true, loops := true, apart := false }
def FlowChecksSaid : Prop := flowChecksRow.holds Tryz.pinned (OpenSpec.ofChange flowChecksSpec)

/-- ITS FALSE NEIGHBOUR: 'it returns false'. Refute it at one input. -/
def flowChecksWrong : ChangeSpec := { name := "flowChecks", fn := fun _ => fun
  | [d] => { results := [.lit (.bool false)], args := [d] }
  | _ => none }
def FlowChecksWrongFalsely : Prop := flowChecksRow.holds Tryz.pinned (OpenSpec.ofChange flowChecksWrong)

/-- 'cadencelaw18.FlowLess': WHATEVER THE INPUT: true; the input reads as it did. -/
def flowLessSpec : ChangeSpec := { name := "flowLess", fn := fun _ => fun
  | [d1, d2] => { results := [.lit (.bool true)], args := [d1, d2] }
  | _ => none }
def flowLessRow : OpenClaim := { program := "ytfigjpehecibeaagreat", sum := "4883e578dd6a00437366022a11f6b15ca723098f2e56cb173ec9f2596ec18f0d", func := "cadence/cadencelaw18.FlowLess", spec := "flowLess", unfollowed := true, recurses := true, loops := true, apart := false }
def FlowLessSaid : Prop := flowLessRow.holds Tryz.pinned (OpenSpec.ofChange flowLessSpec)

/-- ITS FALSE NEIGHBOUR: 'it returns false'. Refute it at one input. -/
def flowLessWrong : ChangeSpec := { name := "flowLess", fn := fun _ => fun
  | [d1, d2] => { results := [.lit (.bool false)], args := [d1, d2] }
  | _ => none }
def FlowLessWrongFalsely : Prop := flowLessRow.holds Tryz.pinned (OpenSpec.ofChange flowLessWrong)

/-- 'cadencelaw18.FlowSources': WHATEVER THE INPUT: true; the input reads as it did. -/
def flowSourcesSpec : ChangeSpec := { name := "flowSources", fn := fun _ => fun
  | [d1, d2] => { results := [.lit (.bool true)], args := [d1, d2] }
  | _ => none }
def flowSourcesRow : OpenClaim := { program := "ytfigjpehecibeaagreat", sum := "4883e578dd6a00437366022a11f6b15ca723098f2e56cb173ec9f2596ec18f0d", func := "cadence/cadencelaw18.FlowSources", spec := "flowSources", unfollowed := true, recurses := true, loops := true, apart := false }
def FlowSourcesSaid : Prop := flowSourcesRow.holds Tryz.pinned (OpenSpec.ofChange flowSourcesSpec)

/-- ITS FALSE NEIGHBOUR: 'it returns false'. Refute it at one input. -/
def flowSourcesWrong : ChangeSpec := { name := "flowSources", fn := fun _ => fun
  | [d1, d2] => { results := [.lit (.bool false)], args := [d1, d2] }
  | _ => none }
def FlowSourcesWrongFalsely : Prop := flowSourcesRow.holds Tryz.pinned (OpenSpec.ofChange flowSourcesWrong)

/-- 'cadencelaw18.FlowHangs': WHATEVER THE INPUT: true; the input reads as it did. -/
def flowHangsSpec : ChangeSpec := { name := "flowHangs", fn := fun _ => fun
  | [d1, d2, d3, d4] => { results := [.lit (.bool true)], args := [d1, d2, d3, d4] }
  | _ => none }
def flowHangsRow : OpenClaim := { program := "ytfigjpehecibeaagreat", sum := "4883e578dd6a00437366022a11f6b15ca723098f2e56cb173ec9f2596ec18f0d", func := "cadence/cadencelaw18.FlowHangs", spec := "flowHangs", unfollowed := true, recurses := true, loops := true, apart := false }
def FlowHangsSaid : Prop := flowHangsRow.holds Tryz.pinned (OpenSpec.ofChange flowHangsSpec)

/-- ITS FALSE NEIGHBOUR: 'it returns false'. Refute it at one input. -/
def flowHangsWrong : ChangeSpec := { name := "flowHangs", fn := fun _ => fun
  | [d1, d2, d3, d4] => { results := [.lit (.bool false)], args := [d1, d2, d3, d4] }
  | _ => none }
def FlowHangsWrongFalsely : Prop := flowHangsRow.holds Tryz.pinned (OpenSpec.ofChange flowHangsWrong)

/-- 'cadencelaw18.FlowTyped': WHATEVER THE INPUT: true; the input reads as it did. -/
def flowTypedSpec : ChangeSpec := { name := "flowTyped", fn := fun _ => fun
  | [d1, d2, d3] => { results := [.lit (.bool true)], args := [d1, d2, d3] }
  | _ => none }
def flowTypedRow : OpenClaim := { program := "ytfigjpehecibeaagreat", sum := "4883e578dd6a00437366022a11f6b15ca723098f2e56cb173ec9f2596ec18f0d", func := "cadence/cadencelaw18.FlowTyped", spec := "flowTyped", unfollowed := true, recurses := true, loops := true, apart := false }
def FlowTypedSaid : Prop := flowTypedRow.holds Tryz.pinned (OpenSpec.ofChange flowTypedSpec)

/-- ITS FALSE NEIGHBOUR: 'it returns false'. Refute it at one input. -/
def flowTypedWrong : ChangeSpec := { name := "flowTyped", fn := fun _ => fun
  | [d1, d2, d3] => { results := [.lit (.bool false)], args := [d1, d2, d3] }
  | _ => none }
def FlowTypedWrongFalsely : Prop := flowTypedRow.holds Tryz.pinned (OpenSpec.ofChange flowTypedWrong)

/- THE SECOND FORM. 'bulk': how many values and letters a reading holds, each counted each time it is reached (what is shared counts as often as it is met; a slice's spare places count too). A statement '..UptoSaid' is the law's where the arguments, and the package variables that the reading takes, are together of bulk at most 1048576: NARROWER than '..Said'. Prove '..Said' where nothing that the law and all that it calls make is longer than what came in: it says more and counts as full. Else prove '..UptoSaid'. A law counts once. -/
mutual
def uptoBulk {H : Type} : DataW H → Nat
  | .lit (.string bytes) => bytes.length + 1
  | .lit _ => 1
  | .nil => 1
  | .ptr d => uptoBulk d + 1
  | .slice elems spare => uptoBulkAll elems + uptoBulkAll spare + 1
  | .agg parts => uptoBulkAll parts + 1
  | .iface _ d => uptoBulk d + 1
  | .map entries => uptoBulkEntries entries + 1
  | .held _ => 1
def uptoBulkAll {H : Type} : List (DataW H) → Nat
  | [] => 0
  | d :: r => uptoBulk d + uptoBulkAll r
def uptoBulkEntries {H : Type} : List (Lit × DataW H) → Nat
  | [] => 0
  | x :: r => uptoBulkEntry x + uptoBulkEntries r
def uptoBulkEntry {H : Type} : Lit × DataW H → Nat
  | (.string bytes, d) => bytes.length + uptoBulk d + 1
  | (_, d) => uptoBulk d + 1
 end
def uptoSmall : (H : Type) → List (DataW H) → Bool := fun _ ds => decide (uptoBulkAll ds ≤ 1048576)
def OpenSpec.upto (s : _root_.Go.ChangeSpec) : _root_.Go.OpenSpec := { _root_.Go.OpenSpec.ofChange s with cond := some uptoSmall }

/-- 'cadencelaw17.RunInputs', WHERE WHAT IT READS IS OF BULK AT MOST 1048576: true; the input reads as it did. -/
def runInputsUptoRow : OpenClaim := { program := "ytfigjpehecibeaagreat", sum := "4883e578dd6a00437366022a11f6b15ca723098f2e56cb173ec9f2596ec18f0d", func := "cadence/cadencelaw17.RunInputs", spec := "runInputs", unfollowed := true, recurses := true, loops := true, apart := false, narrowed := true }
def RunInputsUptoSaid : Prop := runInputsUptoRow.holds Tryz.pinned (OpenSpec.upto runInputsSpec)

/-- 'cadencelaw29.BruteBits', WHERE WHAT IT READS IS OF BULK AT MOST 1048576: true; the input reads as it did. -/
def bruteBitsUptoRow : OpenClaim := { program := "ytfigjpehecibeaagreat", sum := "4883e578dd6a00437366022a11f6b15ca723098f2e56cb173ec9f2596ec18f0d", func := "cadence/cadencelaw29.BruteBits", spec := "bruteBits", unfollowed := true, recurses := true, loops := true, apart := false, narrowed := true }
def BruteBitsUptoSaid : Prop := bruteBitsUptoRow.holds Tryz.pinned (OpenSpec.upto bruteBitsSpec)

/-- 'cadencelaw17.RunEnds', WHERE WHAT IT READS IS OF BULK AT MOST 1048576: true; the input reads as it did. -/
def runEndsUptoRow : OpenClaim := { program := "ytfigjpehecibeaagreat", sum := "4883e578dd6a00437366022a11f6b15ca723098f2e56cb173ec9f2596ec18f0d", func := "cadence/cadencelaw17.RunEnds", spec := "runEnds", unfollowed := true, recurses := true, loops := true, apart := false, narrowed := true }
def RunEndsUptoSaid : Prop := runEndsUptoRow.holds Tryz.pinned (OpenSpec.upto runEndsSpec)

/-- 'cadencelaw17.RunLeaks', WHERE WHAT IT READS IS OF BULK AT MOST 1048576: true; the input reads as it did. -/
def runLeaksUptoRow : OpenClaim := { program := "ytfigjpehecibeaagreat", sum := "4883e578dd6a00437366022a11f6b15ca723098f2e56cb173ec9f2596ec18f0d", func := "cadence/cadencelaw17.RunLeaks", spec := "runLeaks", unfollowed := true, recurses := true, loops := true, apart := false, narrowed := true }
def RunLeaksUptoSaid : Prop := runLeaksUptoRow.holds Tryz.pinned (OpenSpec.upto runLeaksSpec)

/-- 'cadencelaw16.WfNames', WHERE WHAT IT READS IS OF BULK AT MOST 1048576: true; the input reads as it did. -/
def wfNamesUptoRow : OpenClaim := { program := "ytfigjpehecibeaagreat", sum := "4883e578dd6a00437366022a11f6b15ca723098f2e56cb173ec9f2596ec18f0d", func := "cadence/cadencelaw16.WfNames", spec := "wfNames", unfollowed := true, recurses := true, loops := true, apart := false, narrowed := true }
def WfNamesUptoSaid : Prop := wfNamesUptoRow.holds Tryz.pinned (OpenSpec.upto wfNamesSpec)

/-- 'cadencelaw29.BruteShrinks', WHERE WHAT IT READS IS OF BULK AT MOST 1048576: true; the input reads as it did. -/
def bruteShrinksUptoRow : OpenClaim := { program := "ytfigjpehecibeaagreat", sum := "4883e578dd6a00437366022a11f6b15ca723098f2e56cb173ec9f2596ec18f0d", func := "cadence/cadencelaw29.BruteShrinks", spec := "bruteShrinks", unfollowed := true, recurses := true, loops := true, apart := false, narrowed := true }
def BruteShrinksUptoSaid : Prop := bruteShrinksUptoRow.holds Tryz.pinned (OpenSpec.upto bruteShrinksSpec)

/-- 'cadencelaw29.BruteDecides', WHERE WHAT IT READS IS OF BULK AT MOST 1048576: true; the input reads as it did. -/
def bruteDecidesUptoRow : OpenClaim := { program := "ytfigjpehecibeaagreat", sum := "4883e578dd6a00437366022a11f6b15ca723098f2e56cb173ec9f2596ec18f0d", func := "cadence/cadencelaw29.BruteDecides", spec := "bruteDecides", unfollowed := true, recurses := true, loops := true, apart := false, narrowed := true }
def BruteDecidesUptoSaid : Prop := bruteDecidesUptoRow.holds Tryz.pinned (OpenSpec.upto bruteDecidesSpec)

/-- 'cadencelaw18.FlowChecks', WHERE WHAT IT READS IS OF BULK AT MOST 1048576: true; the input reads as it did. -/
def flowChecksUptoRow : OpenClaim := { program := "ytfigjpehecibeaagreat", sum := "4883e578dd6a00437366022a11f6b15ca723098f2e56cb173ec9f2596ec18f0d", func := "cadence/cadencelaw18.FlowChecks", spec := "flowChecks", unfollowed := true, recurses := true, loops := true, apart := false, narrowed := true }
def FlowChecksUptoSaid : Prop := flowChecksUptoRow.holds Tryz.pinned (OpenSpec.upto flowChecksSpec)

/-- 'cadencelaw18.FlowLess', WHERE WHAT IT READS IS OF BULK AT MOST 1048576: true; the input reads as it did. -/
def flowLessUptoRow : OpenClaim := { program := "ytfigjpehecibeaagreat", sum := "4883e578dd6a00437366022a11f6b15ca723098f2e56cb173ec9f2596ec18f0d", func := "cadence/cadencelaw18.FlowLess", spec := "flowLess", unfollowed := true, recurses := true, loops := true, apart := false, narrowed := true }
def FlowLessUptoSaid : Prop := flowLessUptoRow.holds Tryz.pinned (OpenSpec.upto flowLessSpec)

/-- 'cadencelaw18.FlowSources', WHERE WHAT IT READS IS OF BULK AT MOST 1048576: true; the input reads as it did. -/
def flowSourcesUptoRow : OpenClaim := { program := "ytfigjpehecibeaagreat", sum := "4883e578dd6a00437366022a11f6b15ca723098f2e56cb173ec9f2596ec18f0d", func := "cadence/cadencelaw18.FlowSources", spec := "flowSources", unfollowed := true, recurses := true, loops := true, apart := false, narrowed := true }
def FlowSourcesUptoSaid : Prop := flowSourcesUptoRow.holds Tryz.pinned (OpenSpec.upto flowSourcesSpec)

/-- 'cadencelaw18.FlowHangs', WHERE WHAT IT READS IS OF BULK AT MOST 1048576: true; the input reads as it did. -/
def flowHangsUptoRow : OpenClaim := { program := "ytfigjpehecibeaagreat", sum := "4883e578dd6a00437366022a11f6b15ca723098f2e56cb173ec9f2596ec18f0d", func := "cadence/cadencelaw18.FlowHangs", spec := "flowHangs", unfollowed := true, recurses := true, loops := true, apart := false, narrowed := true }
def FlowHangsUptoSaid : Prop := flowHangsUptoRow.holds Tryz.pinned (OpenSpec.upto flowHangsSpec)

/-- 'cadencelaw18.FlowTyped', WHERE WHAT IT READS IS OF BULK AT MOST 1048576: true; the input reads as it did. -/
def flowTypedUptoRow : OpenClaim := { program := "ytfigjpehecibeaagreat", sum := "4883e578dd6a00437366022a11f6b15ca723098f2e56cb173ec9f2596ec18f0d", func := "cadence/cadencelaw18.FlowTyped", spec := "flowTyped", unfollowed := true, recurses := true, loops := true, apart := false, narrowed := true }
def FlowTypedUptoSaid : Prop := flowTypedUptoRow.holds Tryz.pinned (OpenSpec.upto flowTypedSpec)

end Rows
end Go.Proofs.YtfigjpehecibeaaGreat
