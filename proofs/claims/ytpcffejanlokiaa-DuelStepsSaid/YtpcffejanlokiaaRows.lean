/-
  No cell of these rows narrows 'for every input' (looked for: loops, veiled, ifaces, maps, wideKeys, modest, calm, conditions, laid).
  DERIVED. THE GIVEN ROWS OF THIS SEAT. 6 by the template 'for every input the law returns true; each argument reads behind the call as it read before'; 0 by the template 'total and deterministic' (their statements: YtpcffejanlokiaaTotals.lean).
  GIVEN WITH THE SEED: the statements are not yours to turn. If you find one false, say at which input.
  Laid BY PROGRAM, IN A SANDBOX (cutbox-rows.mjs): the forced cells as the released guide's own fill.sh prints them over the translation 73174f48db0faa1b… (all of the seat's roots in one cut). By AI agents, Wed Nov 11 2026. No macro, syntax, notation, axiom, sorry.
-/
import Derived.Test.YtpcffejanlokiaaChecked
import GoSem.Claim
import GoSem.ClaimJoined
import GoSem.ClaimMapViews
import Derived.JoinedTies
import Derived.KernelRfl
namespace Go.Proofs.Ytpcffejanlokiaa
/- THE CELL 'sum', in the pinned program and in every row, IS THE sha256 OF THE DUMP (.gsa) THAT YtpcffejanlokiaaProg.lean LOADS. Nothing in Lean hashes anything: it is a label: what it is worth is what the hold of that sum in a sandbox is worth. -/
noncomputable def Try.pinned : Pinned := { name := "ytpcffejanlokiaa", sum := "73174f48db0faa1bd36c1186ca594a6f955916c37b8d0918413fc379ac13de77", checked := Try.checked }
namespace Rows
def none {H : Type} : Left H := { results := [], args := [] }

/-- 'gauntletlaw11.DuelGoes': WHATEVER THE INPUT: true; the input reads as it did. -/
def duelGoesSpec : ChangeSpec := { name := "duelGoes", fn := fun _ => fun
  | [d1, d2, d3, d4] => { results := [.lit (.bool true)], args := [d1, d2, d3, d4] }
  | _ => none }
def duelGoesRow : OpenClaim := { program := "ytpcffejanlokiaa", sum := "73174f48db0faa1bd36c1186ca594a6f955916c37b8d0918413fc379ac13de77", func := "gauntlet/gauntletlaw11.DuelGoes", spec := "duelGoes", unfollowed := true, recurses := true, apart := false }
def DuelGoesSaid : Prop := duelGoesRow.holds Try.pinned (OpenSpec.ofChange duelGoesSpec)

/-- ITS FALSE NEIGHBOUR: 'it returns false'. Refute it at one input. -/
def duelGoesWrong : ChangeSpec := { name := "duelGoes", fn := fun _ => fun
  | [d1, d2, d3, d4] => { results := [.lit (.bool false)], args := [d1, d2, d3, d4] }
  | _ => none }
def DuelGoesWrongFalsely : Prop := duelGoesRow.holds Try.pinned (OpenSpec.ofChange duelGoesWrong)

/-- 'gauntletlaw11.DuelResults': WHATEVER THE INPUT: true; the input reads as it did. -/
def duelResultsSpec : ChangeSpec := { name := "duelResults", fn := fun _ => fun
  | [d1, d2] => { results := [.lit (.bool true)], args := [d1, d2] }
  | _ => none }
def duelResultsRow : OpenClaim := { program := "ytpcffejanlokiaa", sum := "73174f48db0faa1bd36c1186ca594a6f955916c37b8d0918413fc379ac13de77", func := "gauntlet/gauntletlaw11.DuelResults", spec := "duelResults", unfollowed := true, recurses := true, apart := false }
def DuelResultsSaid : Prop := duelResultsRow.holds Try.pinned (OpenSpec.ofChange duelResultsSpec)

/-- ITS FALSE NEIGHBOUR: 'it returns false'. Refute it at one input. -/
def duelResultsWrong : ChangeSpec := { name := "duelResults", fn := fun _ => fun
  | [d1, d2] => { results := [.lit (.bool false)], args := [d1, d2] }
  | _ => none }
def DuelResultsWrongFalsely : Prop := duelResultsRow.holds Try.pinned (OpenSpec.ofChange duelResultsWrong)

/-- 'gauntletlaw11.DuelSums': WHATEVER THE INPUT: true; the input reads as it did. -/
def duelSumsSpec : ChangeSpec := { name := "duelSums", fn := fun _ => fun
  | [d1, d2] => { results := [.lit (.bool true)], args := [d1, d2] }
  | _ => none }
def duelSumsRow : OpenClaim := { program := "ytpcffejanlokiaa", sum := "73174f48db0faa1bd36c1186ca594a6f955916c37b8d0918413fc379ac13de77", func := "gauntlet/gauntletlaw11.DuelSums", spec := "duelSums", unfollowed := true, recurses := true, apart := false }
def DuelSumsSaid : Prop := duelSumsRow.holds Try.pinned (OpenSpec.ofChange duelSumsSpec)

/-- ITS FALSE NEIGHBOUR: 'it returns false'. Refute it at one input. -/
def duelSumsWrong : ChangeSpec := { name := "duelSums", fn := fun _ => fun
  | [d1, d2] => { results := [.lit (.bool false)], args := [d1, d2] }
  | _ => none }
def DuelSumsWrongFalsely : Prop := duelSumsRow.holds Try.pinned (OpenSpec.ofChange duelSumsWrong)

/-- 'gauntletlaw11.DuelBeyond': WHATEVER THE INPUT: true; the input reads as it did. -/
def duelBeyondSpec : ChangeSpec := { name := "duelBeyond", fn := fun _ => fun
  | [d1, d2, d3, d4] => { results := [.lit (.bool true)], args := [d1, d2, d3, d4] }
  | _ => none }
def duelBeyondRow : OpenClaim := { program := "ytpcffejanlokiaa", sum := "73174f48db0faa1bd36c1186ca594a6f955916c37b8d0918413fc379ac13de77", func := "gauntlet/gauntletlaw11.DuelBeyond", spec := "duelBeyond", unfollowed := true, recurses := true, apart := false }
def DuelBeyondSaid : Prop := duelBeyondRow.holds Try.pinned (OpenSpec.ofChange duelBeyondSpec)

/-- ITS FALSE NEIGHBOUR: 'it returns false'. Refute it at one input. -/
def duelBeyondWrong : ChangeSpec := { name := "duelBeyond", fn := fun _ => fun
  | [d1, d2, d3, d4] => { results := [.lit (.bool false)], args := [d1, d2, d3, d4] }
  | _ => none }
def DuelBeyondWrongFalsely : Prop := duelBeyondRow.holds Try.pinned (OpenSpec.ofChange duelBeyondWrong)

/-- 'gauntletlaw11.DuelPlays': WHATEVER THE INPUT: true; the input reads as it did. -/
def duelPlaysSpec : ChangeSpec := { name := "duelPlays", fn := fun _ => fun
  | [d1, d2, d3] => { results := [.lit (.bool true)], args := [d1, d2, d3] }
  | _ => none }
def duelPlaysRow : OpenClaim := { program := "ytpcffejanlokiaa", sum := "73174f48db0faa1bd36c1186ca594a6f955916c37b8d0918413fc379ac13de77", func := "gauntlet/gauntletlaw11.DuelPlays", spec := "duelPlays", unfollowed := true, recurses := true, apart := false }
def DuelPlaysSaid : Prop := duelPlaysRow.holds Try.pinned (OpenSpec.ofChange duelPlaysSpec)

/-- ITS FALSE NEIGHBOUR: 'it returns false'. Refute it at one input. -/
def duelPlaysWrong : ChangeSpec := { name := "duelPlays", fn := fun _ => fun
  | [d1, d2, d3] => { results := [.lit (.bool false)], args := [d1, d2, d3] }
  | _ => none }
def DuelPlaysWrongFalsely : Prop := duelPlaysRow.holds Try.pinned (OpenSpec.ofChange duelPlaysWrong)

/-- 'gauntletlaw11.DuelSteps': WHATEVER THE INPUT: true; the input reads as it did. -/
def duelStepsSpec : ChangeSpec := { name := "duelSteps", fn := fun _ => fun
  | [d1, d2, d3] => { results := [.lit (.bool true)], args := [d1, d2, d3] }
  | _ => none }
def duelStepsRow : OpenClaim := { program := "ytpcffejanlokiaa", sum := "73174f48db0faa1bd36c1186ca594a6f955916c37b8d0918413fc379ac13de77", func := "gauntlet/gauntletlaw11.DuelSteps", spec := "duelSteps", unfollowed := true, recurses := true, apart := false }
def DuelStepsSaid : Prop := duelStepsRow.holds Try.pinned (OpenSpec.ofChange duelStepsSpec)

/-- ITS FALSE NEIGHBOUR: 'it returns false'. Refute it at one input. -/
def duelStepsWrong : ChangeSpec := { name := "duelSteps", fn := fun _ => fun
  | [d1, d2, d3] => { results := [.lit (.bool false)], args := [d1, d2, d3] }
  | _ => none }
def DuelStepsWrongFalsely : Prop := duelStepsRow.holds Try.pinned (OpenSpec.ofChange duelStepsWrong)

/- THE SECOND FORM. 'bulk': how many values and letters a reading holds, each counted each time it is reached (what is shared counts as often as it is met; a slice's spare places count too). A statement '..UptoSaid' is the law's where the arguments, and the package variables that the reading takes, are together of bulk at most 1048576: NARROWER than '..Said'. Prove '..Said' where nothing that the law and all that it calls make is longer than what came in: it says more and counts as full. Else prove '..UptoSaid'. A law counts once. -/
mutual
def uptoBulk {H : Type} : DataW H → Nat
  | .lit (.string bytes) => bytes.length + 1
  | .lit _ => 1
  | .nil => 1
  | .ptr d => uptoBulk d + 1
  | .slice elems spare => uptoBulkAll elems + uptoBulkAll spare + 1
  | .agg parts => uptoBulkAll parts + 1
  | .iface _ d => uptoBulk d + 1
  | .map entries => uptoBulkEntries entries + 1
  | .held _ => 1
def uptoBulkAll {H : Type} : List (DataW H) → Nat
  | [] => 0
  | d :: r => uptoBulk d + uptoBulkAll r
def uptoBulkEntries {H : Type} : List (Lit × DataW H) → Nat
  | [] => 0
  | x :: r => uptoBulkEntry x + uptoBulkEntries r
def uptoBulkEntry {H : Type} : Lit × DataW H → Nat
  | (.string bytes, d) => bytes.length + uptoBulk d + 1
  | (_, d) => uptoBulk d + 1
 end
def uptoSmall : (H : Type) → List (DataW H) → Bool := fun _ ds => decide (uptoBulkAll ds ≤ 1048576)
def OpenSpec.upto (s : _root_.Go.ChangeSpec) : _root_.Go.OpenSpec := { _root_.Go.OpenSpec.ofChange s with cond := some uptoSmall }

/-- 'gauntletlaw11.DuelGoes', WHERE WHAT IT READS IS OF BULK AT MOST 1048576: true; the input reads as it did. -/
def duelGoesUptoRow : OpenClaim := { program := "ytpcffejanlokiaa", sum := "73174f48db0faa1bd36c1186ca594a6f955916c37b8d0918413fc379ac13de77", func := "gauntlet/gauntletlaw11.DuelGoes", spec := "duelGoes", unfollowed := true, recurses := true, apart := false, narrowed := true }
def DuelGoesUptoSaid : Prop := duelGoesUptoRow.holds Try.pinned (OpenSpec.upto duelGoesSpec)

/-- 'gauntletlaw11.DuelResults', WHERE WHAT IT READS IS OF BULK AT MOST 1048576: true; the input reads as it did. -/
def duelResultsUptoRow : OpenClaim := { program := "ytpcffejanlokiaa", sum := "73174f48db0faa1bd36c1186ca594a6f955916c37b8d0918413fc379ac13de77", func := "gauntlet/gauntletlaw11.DuelResults", spec := "duelResults", unfollowed := true, recurses := true, apart := false, narrowed := true }
def DuelResultsUptoSaid : Prop := duelResultsUptoRow.holds Try.pinned (OpenSpec.upto duelResultsSpec)

/-- 'gauntletlaw11.DuelSums', WHERE WHAT IT READS IS OF BULK AT MOST 1048576: true; the input reads as it did. -/
def duelSumsUptoRow : OpenClaim := { program := "ytpcffejanlokiaa", sum := "73174f48db0faa1bd36c1186ca594a6f955916c37b8d0918413fc379ac13de77", func := "gauntlet/gauntletlaw11.DuelSums", spec := "duelSums", unfollowed := true, recurses := true, apart := false, narrowed := true }
def DuelSumsUptoSaid : Prop := duelSumsUptoRow.holds Try.pinned (OpenSpec.upto duelSumsSpec)

/-- 'gauntletlaw11.DuelBeyond', WHERE WHAT IT READS IS OF BULK AT MOST 1048576: true; the input reads as it did. -/
def duelBeyondUptoRow : OpenClaim := { program := "ytpcffejanlokiaa", sum := "73174f48db0faa1bd36c1186ca594a6f955916c37b8d0918413fc379ac13de77", func := "gauntlet/gauntletlaw11.DuelBeyond", spec := "duelBeyond", unfollowed := true, recurses := true, apart := false, narrowed := true }
def DuelBeyondUptoSaid : Prop := duelBeyondUptoRow.holds Try.pinned (OpenSpec.upto duelBeyondSpec)

/-- 'gauntletlaw11.DuelPlays', WHERE WHAT IT READS IS OF BULK AT MOST 1048576: true; the input reads as it did. -/
def duelPlaysUptoRow : OpenClaim := { program := "ytpcffejanlokiaa", sum := "73174f48db0faa1bd36c1186ca594a6f955916c37b8d0918413fc379ac13de77", func := "gauntlet/gauntletlaw11.DuelPlays", spec := "duelPlays", unfollowed := true, recurses := true, apart := false, narrowed := true }
def DuelPlaysUptoSaid : Prop := duelPlaysUptoRow.holds Try.pinned (OpenSpec.upto duelPlaysSpec)

/-- 'gauntletlaw11.DuelSteps', WHERE WHAT IT READS IS OF BULK AT MOST 1048576: true; the input reads as it did. -/
def duelStepsUptoRow : OpenClaim := { program := "ytpcffejanlokiaa", sum := "73174f48db0faa1bd36c1186ca594a6f955916c37b8d0918413fc379ac13de77", func := "gauntlet/gauntletlaw11.DuelSteps", spec := "duelSteps", unfollowed := true, recurses := true, apart := false, narrowed := true }
def DuelStepsUptoSaid : Prop := duelStepsUptoRow.holds Try.pinned (OpenSpec.upto duelStepsSpec)

end Rows
end Go.Proofs.Ytpcffejanlokiaa
