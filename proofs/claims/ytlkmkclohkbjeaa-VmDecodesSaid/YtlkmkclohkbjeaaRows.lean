/-
  No cell of these rows narrows 'for every input' (looked for: loops, veiled, ifaces, maps, wideKeys, modest, calm, conditions, laid).
  DERIVED. THE GIVEN ROWS OF THIS SEAT. 12 by the template 'for every input the law returns true; each argument reads behind the call as it read before'; 0 by the template 'total and deterministic' (their statements: YtlkmkclohkbjeaaTotals.lean).
  GIVEN WITH THE SEED: the statements are not yours to turn. If you find one false, say at which input.
  Laid BY PROGRAM, IN A SANDBOX (cutbox-rows.mjs): the forced cells as the released guide's own fill.sh prints them over the translation 7c5d23ea5c7528e4… (all of the seat's roots in one cut). By AI agents, Wed Nov 11 2026. No macro, syntax, notation, axiom, sorry.
-/
import Derived.Test.YtlkmkclohkbjeaaChecked
import GoSem.Claim
import GoSem.ClaimJoined
import GoSem.ClaimMapViews
import Derived.JoinedTies
import Derived.KernelRfl
namespace Go.Proofs.Ytlkmkclohkbjeaa
/- THE CELL 'sum', in the pinned program and in every row, IS THE sha256 OF THE DUMP (.gsa) THAT YtlkmkclohkbjeaaProg.lean LOADS. Nothing in Lean hashes anything: it is a label: what it is worth is what the hold of that sum in a sandbox is worth. -/
noncomputable def Try.pinned : Pinned := { name := "ytlkmkclohkbjeaa", sum := "7c5d23ea5c7528e49a0e90adaee17885460841c0bac37887231a957bb41ebcb8", checked := Try.checked }
namespace Rows
def none {H : Type} : Left H := { results := [], args := [] }

/-- 'gauntletlaw10.VmSteps': WHATEVER THE INPUT: true; the input reads as it did. -/
def vmStepsSpec : ChangeSpec := { name := "vmSteps", fn := fun _ => fun
  | [d1, d2, d3] => { results := [.lit (.bool true)], args := [d1, d2, d3] }
  | _ => none }
def vmStepsRow : OpenClaim := { program := "ytlkmkclohkbjeaa", sum := "7c5d23ea5c7528e49a0e90adaee17885460841c0bac37887231a957bb41ebcb8", func := "gauntlet/gauntletlaw10.VmSteps", spec := "vmSteps", unfollowed := true, recurses := true, apart := false }
def VmStepsSaid : Prop := vmStepsRow.holds Try.pinned (OpenSpec.ofChange vmStepsSpec)

/-- ITS FALSE NEIGHBOUR: 'it returns false'. Refute it at one input. -/
def vmStepsWrong : ChangeSpec := { name := "vmSteps", fn := fun _ => fun
  | [d1, d2, d3] => { results := [.lit (.bool false)], args := [d1, d2, d3] }
  | _ => none }
def VmStepsWrongFalsely : Prop := vmStepsRow.holds Try.pinned (OpenSpec.ofChange vmStepsWrong)

/-- 'gauntletlaw10.VmRuns': WHATEVER THE INPUT: true; the input reads as it did. -/
def vmRunsSpec : ChangeSpec := { name := "vmRuns", fn := fun _ => fun
  | [d1, d2, d3] => { results := [.lit (.bool true)], args := [d1, d2, d3] }
  | _ => none }
def vmRunsRow : OpenClaim := { program := "ytlkmkclohkbjeaa", sum := "7c5d23ea5c7528e49a0e90adaee17885460841c0bac37887231a957bb41ebcb8", func := "gauntlet/gauntletlaw10.VmRuns", spec := "vmRuns", unfollowed := true, recurses := true, apart := false }
def VmRunsSaid : Prop := vmRunsRow.holds Try.pinned (OpenSpec.ofChange vmRunsSpec)

/-- ITS FALSE NEIGHBOUR: 'it returns false'. Refute it at one input. -/
def vmRunsWrong : ChangeSpec := { name := "vmRuns", fn := fun _ => fun
  | [d1, d2, d3] => { results := [.lit (.bool false)], args := [d1, d2, d3] }
  | _ => none }
def VmRunsWrongFalsely : Prop := vmRunsRow.holds Try.pinned (OpenSpec.ofChange vmRunsWrong)

/-- 'gauntletlaw10.VmOps': WHATEVER THE INPUT: true; the input reads as it did. -/
def vmOpsSpec : ChangeSpec := { name := "vmOps", fn := fun _ => fun
  | [d1, d2, d3] => { results := [.lit (.bool true)], args := [d1, d2, d3] }
  | _ => none }
def vmOpsRow : OpenClaim := { program := "ytlkmkclohkbjeaa", sum := "7c5d23ea5c7528e49a0e90adaee17885460841c0bac37887231a957bb41ebcb8", func := "gauntlet/gauntletlaw10.VmOps", spec := "vmOps", unfollowed := true, recurses := true, apart := false }
def VmOpsSaid : Prop := vmOpsRow.holds Try.pinned (OpenSpec.ofChange vmOpsSpec)

/-- ITS FALSE NEIGHBOUR: 'it returns false'. Refute it at one input. -/
def vmOpsWrong : ChangeSpec := { name := "vmOps", fn := fun _ => fun
  | [d1, d2, d3] => { results := [.lit (.bool false)], args := [d1, d2, d3] }
  | _ => none }
def VmOpsWrongFalsely : Prop := vmOpsRow.holds Try.pinned (OpenSpec.ofChange vmOpsWrong)

/-- 'gauntletlaw10.VmFuel': WHATEVER THE INPUT: true; the input reads as it did. -/
def vmFuelSpec : ChangeSpec := { name := "vmFuel", fn := fun _ => fun
  | [d1, d2, d3] => { results := [.lit (.bool true)], args := [d1, d2, d3] }
  | _ => none }
def vmFuelRow : OpenClaim := { program := "ytlkmkclohkbjeaa", sum := "7c5d23ea5c7528e49a0e90adaee17885460841c0bac37887231a957bb41ebcb8", func := "gauntlet/gauntletlaw10.VmFuel", spec := "vmFuel", unfollowed := true, recurses := true, apart := false }
def VmFuelSaid : Prop := vmFuelRow.holds Try.pinned (OpenSpec.ofChange vmFuelSpec)

/-- ITS FALSE NEIGHBOUR: 'it returns false'. Refute it at one input. -/
def vmFuelWrong : ChangeSpec := { name := "vmFuel", fn := fun _ => fun
  | [d1, d2, d3] => { results := [.lit (.bool false)], args := [d1, d2, d3] }
  | _ => none }
def VmFuelWrongFalsely : Prop := vmFuelRow.holds Try.pinned (OpenSpec.ofChange vmFuelWrong)

/-- 'gauntletlaw10.VmCap': WHATEVER THE INPUT: true; the input reads as it did. -/
def vmCapSpec : ChangeSpec := { name := "vmCap", fn := fun _ => fun
  | [d1, d2, d3, d4] => { results := [.lit (.bool true)], args := [d1, d2, d3, d4] }
  | _ => none }
def vmCapRow : OpenClaim := { program := "ytlkmkclohkbjeaa", sum := "7c5d23ea5c7528e49a0e90adaee17885460841c0bac37887231a957bb41ebcb8", func := "gauntlet/gauntletlaw10.VmCap", spec := "vmCap", unfollowed := true, recurses := true, apart := false }
def VmCapSaid : Prop := vmCapRow.holds Try.pinned (OpenSpec.ofChange vmCapSpec)

/-- ITS FALSE NEIGHBOUR: 'it returns false'. Refute it at one input. -/
def vmCapWrong : ChangeSpec := { name := "vmCap", fn := fun _ => fun
  | [d1, d2, d3, d4] => { results := [.lit (.bool false)], args := [d1, d2, d3, d4] }
  | _ => none }
def VmCapWrongFalsely : Prop := vmCapRow.holds Try.pinned (OpenSpec.ofChange vmCapWrong)

/-- 'gauntletlaw10.VmStack': WHATEVER THE INPUT: true; the input reads as it did. -/
def vmStackSpec : ChangeSpec := { name := "vmStack", fn := fun _ => fun
  | [d1, d2] => { results := [.lit (.bool true)], args := [d1, d2] }
  | _ => none }
def vmStackRow : OpenClaim := { program := "ytlkmkclohkbjeaa", sum := "7c5d23ea5c7528e49a0e90adaee17885460841c0bac37887231a957bb41ebcb8", func := "gauntlet/gauntletlaw10.VmStack", spec := "vmStack", unfollowed := true, recurses := true, apart := false }
def VmStackSaid : Prop := vmStackRow.holds Try.pinned (OpenSpec.ofChange vmStackSpec)

/-- ITS FALSE NEIGHBOUR: 'it returns false'. Refute it at one input. -/
def vmStackWrong : ChangeSpec := { name := "vmStack", fn := fun _ => fun
  | [d1, d2] => { results := [.lit (.bool false)], args := [d1, d2] }
  | _ => none }
def VmStackWrongFalsely : Prop := vmStackRow.holds Try.pinned (OpenSpec.ofChange vmStackWrong)

/-- 'gauntletlaw10.VmRand': WHATEVER THE INPUT: true; the input reads as it did. -/
def vmRandSpec : ChangeSpec := { name := "vmRand", fn := fun _ => fun
  | [d1, d2] => { results := [.lit (.bool true)], args := [d1, d2] }
  | _ => none }
def vmRandRow : OpenClaim := { program := "ytlkmkclohkbjeaa", sum := "7c5d23ea5c7528e49a0e90adaee17885460841c0bac37887231a957bb41ebcb8", func := "gauntlet/gauntletlaw10.VmRand", spec := "vmRand", unfollowed := true, recurses := true, apart := false }
def VmRandSaid : Prop := vmRandRow.holds Try.pinned (OpenSpec.ofChange vmRandSpec)

/-- ITS FALSE NEIGHBOUR: 'it returns false'. Refute it at one input. -/
def vmRandWrong : ChangeSpec := { name := "vmRand", fn := fun _ => fun
  | [d1, d2] => { results := [.lit (.bool false)], args := [d1, d2] }
  | _ => none }
def VmRandWrongFalsely : Prop := vmRandRow.holds Try.pinned (OpenSpec.ofChange vmRandWrong)

/-- 'gauntletlaw10.VmLoops': WHATEVER THE INPUT: true; the input reads as it did. -/
def vmLoopsSpec : ChangeSpec := { name := "vmLoops", fn := fun _ => fun
  | [d1, d2] => { results := [.lit (.bool true)], args := [d1, d2] }
  | _ => none }
def vmLoopsRow : OpenClaim := { program := "ytlkmkclohkbjeaa", sum := "7c5d23ea5c7528e49a0e90adaee17885460841c0bac37887231a957bb41ebcb8", func := "gauntlet/gauntletlaw10.VmLoops", spec := "vmLoops", unfollowed := true, recurses := true, apart := false }
def VmLoopsSaid : Prop := vmLoopsRow.holds Try.pinned (OpenSpec.ofChange vmLoopsSpec)

/-- ITS FALSE NEIGHBOUR: 'it returns false'. Refute it at one input. -/
def vmLoopsWrong : ChangeSpec := { name := "vmLoops", fn := fun _ => fun
  | [d1, d2] => { results := [.lit (.bool false)], args := [d1, d2] }
  | _ => none }
def VmLoopsWrongFalsely : Prop := vmLoopsRow.holds Try.pinned (OpenSpec.ofChange vmLoopsWrong)

/-- 'gauntletlaw10.VmReads': WHATEVER THE INPUT: true; the input reads as it did. -/
def vmReadsSpec : ChangeSpec := { name := "vmReads", fn := fun _ => fun
  | [d1, d2, d3] => { results := [.lit (.bool true)], args := [d1, d2, d3] }
  | _ => none }
def vmReadsRow : OpenClaim := { program := "ytlkmkclohkbjeaa", sum := "7c5d23ea5c7528e49a0e90adaee17885460841c0bac37887231a957bb41ebcb8", func := "gauntlet/gauntletlaw10.VmReads", spec := "vmReads", unfollowed := true, recurses := true, apart := false }
def VmReadsSaid : Prop := vmReadsRow.holds Try.pinned (OpenSpec.ofChange vmReadsSpec)

/-- ITS FALSE NEIGHBOUR: 'it returns false'. Refute it at one input. -/
def vmReadsWrong : ChangeSpec := { name := "vmReads", fn := fun _ => fun
  | [d1, d2, d3] => { results := [.lit (.bool false)], args := [d1, d2, d3] }
  | _ => none }
def VmReadsWrongFalsely : Prop := vmReadsRow.holds Try.pinned (OpenSpec.ofChange vmReadsWrong)

/-- 'gauntletlaw10.VmSwaps': WHATEVER THE INPUT: true; the input reads as it did. -/
def vmSwapsSpec : ChangeSpec := { name := "vmSwaps", fn := fun _ => fun
  | [d1, d2] => { results := [.lit (.bool true)], args := [d1, d2] }
  | _ => none }
def vmSwapsRow : OpenClaim := { program := "ytlkmkclohkbjeaa", sum := "7c5d23ea5c7528e49a0e90adaee17885460841c0bac37887231a957bb41ebcb8", func := "gauntlet/gauntletlaw10.VmSwaps", spec := "vmSwaps", unfollowed := true, recurses := true, apart := false }
def VmSwapsSaid : Prop := vmSwapsRow.holds Try.pinned (OpenSpec.ofChange vmSwapsSpec)

/-- ITS FALSE NEIGHBOUR: 'it returns false'. Refute it at one input. -/
def vmSwapsWrong : ChangeSpec := { name := "vmSwaps", fn := fun _ => fun
  | [d1, d2] => { results := [.lit (.bool false)], args := [d1, d2] }
  | _ => none }
def VmSwapsWrongFalsely : Prop := vmSwapsRow.holds Try.pinned (OpenSpec.ofChange vmSwapsWrong)

/-- 'gauntletlaw10.VmDecodes': WHATEVER THE INPUT: true; the input reads as it did. -/
def vmDecodesSpec : ChangeSpec := { name := "vmDecodes", fn := fun _ => fun
  | [d] => { results := [.lit (.bool true)], args := [d] }
  | _ => none }
def vmDecodesRow : OpenClaim := { program := "ytlkmkclohkbjeaa", sum := "7c5d23ea5c7528e49a0e90adaee17885460841c0bac37887231a957bb41ebcb8", func := "gauntlet/gauntletlaw10.VmDecodes", spec := "vmDecodes", unfollowed := true, recurses := true, apart := false }
def VmDecodesSaid : Prop := vmDecodesRow.holds Try.pinned (OpenSpec.ofChange vmDecodesSpec)

/-- ITS FALSE NEIGHBOUR: 'it returns false'. Refute it at one input. -/
def vmDecodesWrong : ChangeSpec := { name := "vmDecodes", fn := fun _ => fun
  | [d] => { results := [.lit (.bool false)], args := [d] }
  | _ => none }
def VmDecodesWrongFalsely : Prop := vmDecodesRow.holds Try.pinned (OpenSpec.ofChange vmDecodesWrong)

/-- 'gauntletlaw10.VmStates': WHATEVER THE INPUT: true; the input reads as it did. -/
def vmStatesSpec : ChangeSpec := { name := "vmStates", fn := fun _ => fun
  | [d] => { results := [.lit (.bool true)], args := [d] }
  | _ => none }
def vmStatesRow : OpenClaim := { program := "ytlkmkclohkbjeaa", sum := "7c5d23ea5c7528e49a0e90adaee17885460841c0bac37887231a957bb41ebcb8", func := "gauntlet/gauntletlaw10.VmStates", spec := "vmStates", unfollowed := true, recurses := true, apart := false }
def VmStatesSaid : Prop := vmStatesRow.holds Try.pinned (OpenSpec.ofChange vmStatesSpec)

/-- ITS FALSE NEIGHBOUR: 'it returns false'. Refute it at one input. -/
def vmStatesWrong : ChangeSpec := { name := "vmStates", fn := fun _ => fun
  | [d] => { results := [.lit (.bool false)], args := [d] }
  | _ => none }
def VmStatesWrongFalsely : Prop := vmStatesRow.holds Try.pinned (OpenSpec.ofChange vmStatesWrong)

/- THE SECOND FORM. 'bulk': how many values and letters a reading holds, each counted each time it is reached (what is shared counts as often as it is met; a slice's spare places count too). A statement '..UptoSaid' is the law's where the arguments, and the package variables that the reading takes, are together of bulk at most 1048576: NARROWER than '..Said'. Prove '..Said' where nothing that the law and all that it calls make is longer than what came in: it says more and counts as full. Else prove '..UptoSaid'. A law counts once. -/
mutual
def uptoBulk {H : Type} : DataW H → Nat
  | .lit (.string bytes) => bytes.length + 1
  | .lit _ => 1
  | .nil => 1
  | .ptr d => uptoBulk d + 1
  | .slice elems spare => uptoBulkAll elems + uptoBulkAll spare + 1
  | .agg parts => uptoBulkAll parts + 1
  | .iface _ d => uptoBulk d + 1
  | .map entries => uptoBulkEntries entries + 1
  | .held _ => 1
def uptoBulkAll {H : Type} : List (DataW H) → Nat
  | [] => 0
  | d :: r => uptoBulk d + uptoBulkAll r
def uptoBulkEntries {H : Type} : List (Lit × DataW H) → Nat
  | [] => 0
  | x :: r => uptoBulkEntry x + uptoBulkEntries r
def uptoBulkEntry {H : Type} : Lit × DataW H → Nat
  | (.string bytes, d) => bytes.length + uptoBulk d + 1
  | (_, d) => uptoBulk d + 1
 end
def uptoSmall : (H : Type) → List (DataW H) → Bool := fun _ ds => decide (uptoBulkAll ds ≤ 1048576)
def OpenSpec.upto (s : _root_.Go.ChangeSpec) : _root_.Go.OpenSpec := { _root_.Go.OpenSpec.ofChange s with cond := some uptoSmall }

/-- 'gauntletlaw10.VmSteps', WHERE WHAT IT READS IS OF BULK AT MOST 1048576: true; the input reads as it did. -/
def vmStepsUptoRow : OpenClaim := { program := "ytlkmkclohkbjeaa", sum := "7c5d23ea5c7528e49a0e90adaee17885460841c0bac37887231a957bb41ebcb8", func := "gauntlet/gauntletlaw10.VmSteps", spec := "vmSteps", unfollowed := true, recurses := true, apart := false, narrowed := true }
def VmStepsUptoSaid : Prop := vmStepsUptoRow.holds Try.pinned (OpenSpec.upto vmStepsSpec)

/-- 'gauntletlaw10.VmRuns', WHERE WHAT IT READS IS OF BULK AT MOST 1048576: true; the input reads as it did. -/
def vmRunsUptoRow : OpenClaim := { program := "ytlkmkclohkbjeaa", sum := "7c5d23ea5c7528e49a0e90adaee17885460841c0bac37887231a957bb41ebcb8", func := "gauntlet/gauntletlaw10.VmRuns", spec := "vmRuns", unfollowed := true, recurses := true, apart := false, narrowed := true }
def VmRunsUptoSaid : Prop := vmRunsUptoRow.holds Try.pinned (OpenSpec.upto vmRunsSpec)

/-- 'gauntletlaw10.VmOps', WHERE WHAT IT READS IS OF BULK AT MOST 1048576: true; the input reads as it did. -/
def vmOpsUptoRow : OpenClaim := { program := "ytlkmkclohkbjeaa", sum := "7c5d23ea5c7528e49a0e90adaee17885460841c0bac37887231a957bb41ebcb8", func := "gauntlet/gauntletlaw10.VmOps", spec := "vmOps", unfollowed := true, recurses := true, apart := false, narrowed := true }
def VmOpsUptoSaid : Prop := vmOpsUptoRow.holds Try.pinned (OpenSpec.upto vmOpsSpec)

/-- 'gauntletlaw10.VmFuel', WHERE WHAT IT READS IS OF BULK AT MOST 1048576: true; the input reads as it did. -/
def vmFuelUptoRow : OpenClaim := { program := "ytlkmkclohkbjeaa", sum := "7c5d23ea5c7528e49a0e90adaee17885460841c0bac37887231a957bb41ebcb8", func := "gauntlet/gauntletlaw10.VmFuel", spec := "vmFuel", unfollowed := true, recurses := true, apart := false, narrowed := true }
def VmFuelUptoSaid : Prop := vmFuelUptoRow.holds Try.pinned (OpenSpec.upto vmFuelSpec)

/-- 'gauntletlaw10.VmCap', WHERE WHAT IT READS IS OF BULK AT MOST 1048576: true; the input reads as it did. -/
def vmCapUptoRow : OpenClaim := { program := "ytlkmkclohkbjeaa", sum := "7c5d23ea5c7528e49a0e90adaee17885460841c0bac37887231a957bb41ebcb8", func := "gauntlet/gauntletlaw10.VmCap", spec := "vmCap", unfollowed := true, recurses := true, apart := false, narrowed := true }
def VmCapUptoSaid : Prop := vmCapUptoRow.holds Try.pinned (OpenSpec.upto vmCapSpec)

/-- 'gauntletlaw10.VmStack', WHERE WHAT IT READS IS OF BULK AT MOST 1048576: true; the input reads as it did. -/
def vmStackUptoRow : OpenClaim := { program := "ytlkmkclohkbjeaa", sum := "7c5d23ea5c7528e49a0e90adaee17885460841c0bac37887231a957bb41ebcb8", func := "gauntlet/gauntletlaw10.VmStack", spec := "vmStack", unfollowed := true, recurses := true, apart := false, narrowed := true }
def VmStackUptoSaid : Prop := vmStackUptoRow.holds Try.pinned (OpenSpec.upto vmStackSpec)

/-- 'gauntletlaw10.VmRand', WHERE WHAT IT READS IS OF BULK AT MOST 1048576: true; the input reads as it did. -/
def vmRandUptoRow : OpenClaim := { program := "ytlkmkclohkbjeaa", sum := "7c5d23ea5c7528e49a0e90adaee17885460841c0bac37887231a957bb41ebcb8", func := "gauntlet/gauntletlaw10.VmRand", spec := "vmRand", unfollowed := true, recurses := true, apart := false, narrowed := true }
def VmRandUptoSaid : Prop := vmRandUptoRow.holds Try.pinned (OpenSpec.upto vmRandSpec)

/-- 'gauntletlaw10.VmLoops', WHERE WHAT IT READS IS OF BULK AT MOST 1048576: true; the input reads as it did. -/
def vmLoopsUptoRow : OpenClaim := { program := "ytlkmkclohkbjeaa", sum := "7c5d23ea5c7528e49a0e90adaee17885460841c0bac37887231a957bb41ebcb8", func := "gauntlet/gauntletlaw10.VmLoops", spec := "vmLoops", unfollowed := true, recurses := true, apart := false, narrowed := true }
def VmLoopsUptoSaid : Prop := vmLoopsUptoRow.holds Try.pinned (OpenSpec.upto vmLoopsSpec)

/-- 'gauntletlaw10.VmReads', WHERE WHAT IT READS IS OF BULK AT MOST 1048576: true; the input reads as it did. -/
def vmReadsUptoRow : OpenClaim := { program := "ytlkmkclohkbjeaa", sum := "7c5d23ea5c7528e49a0e90adaee17885460841c0bac37887231a957bb41ebcb8", func := "gauntlet/gauntletlaw10.VmReads", spec := "vmReads", unfollowed := true, recurses := true, apart := false, narrowed := true }
def VmReadsUptoSaid : Prop := vmReadsUptoRow.holds Try.pinned (OpenSpec.upto vmReadsSpec)

/-- 'gauntletlaw10.VmSwaps', WHERE WHAT IT READS IS OF BULK AT MOST 1048576: true; the input reads as it did. -/
def vmSwapsUptoRow : OpenClaim := { program := "ytlkmkclohkbjeaa", sum := "7c5d23ea5c7528e49a0e90adaee17885460841c0bac37887231a957bb41ebcb8", func := "gauntlet/gauntletlaw10.VmSwaps", spec := "vmSwaps", unfollowed := true, recurses := true, apart := false, narrowed := true }
def VmSwapsUptoSaid : Prop := vmSwapsUptoRow.holds Try.pinned (OpenSpec.upto vmSwapsSpec)

/-- 'gauntletlaw10.VmDecodes', WHERE WHAT IT READS IS OF BULK AT MOST 1048576: true; the input reads as it did. -/
def vmDecodesUptoRow : OpenClaim := { program := "ytlkmkclohkbjeaa", sum := "7c5d23ea5c7528e49a0e90adaee17885460841c0bac37887231a957bb41ebcb8", func := "gauntlet/gauntletlaw10.VmDecodes", spec := "vmDecodes", unfollowed := true, recurses := true, apart := false, narrowed := true }
def VmDecodesUptoSaid : Prop := vmDecodesUptoRow.holds Try.pinned (OpenSpec.upto vmDecodesSpec)

/-- 'gauntletlaw10.VmStates', WHERE WHAT IT READS IS OF BULK AT MOST 1048576: true; the input reads as it did. -/
def vmStatesUptoRow : OpenClaim := { program := "ytlkmkclohkbjeaa", sum := "7c5d23ea5c7528e49a0e90adaee17885460841c0bac37887231a957bb41ebcb8", func := "gauntlet/gauntletlaw10.VmStates", spec := "vmStates", unfollowed := true, recurses := true, apart := false, narrowed := true }
def VmStatesUptoSaid : Prop := vmStatesUptoRow.holds Try.pinned (OpenSpec.upto vmStatesSpec)

end Rows
end Go.Proofs.Ytlkmkclohkbjeaa
