/-
  No cell of these rows narrows 'for every input' (looked for: loops, veiled, ifaces, maps, wideKeys, modest, calm, conditions, laid).
  DERIVED. THE GIVEN ROWS OF THIS SEAT. 4 by the template 'for every input the law returns true; each argument reads behind the call as it read before'; 0 by the template 'total and deterministic' (their statements: YtjdeeloemhjbhaaTotals.lean).
  GIVEN WITH THE SEED: the statements are not yours to turn. If you find one false, say at which input.
  Laid BY PROGRAM, IN A SANDBOX (cutbox-rows.mjs): the forced cells as the released guide's own fill.sh prints them over the translation e7b5a05cc8fb4c46… (all of the seat's roots in one cut). By AI agents, Wed Nov 11 2026. No macro, syntax, notation, axiom, sorry.
-/
import Derived.Test.YtjdeeloemhjbhaaChecked
import GoSem.Claim
import GoSem.ClaimJoined
import GoSem.ClaimMapViews
import Derived.JoinedTies
import Derived.KernelRfl
namespace Go.Proofs.Ytjdeeloemhjbhaa
/- THE CELL 'sum', in the pinned program and in every row, IS THE sha256 OF THE DUMP (.gsa) THAT YtjdeeloemhjbhaaProg.lean LOADS. Nothing in Lean hashes anything: it is a label: what it is worth is what the hold of that sum in a sandbox is worth. -/
noncomputable def Try.pinned : Pinned := { name := "ytjdeeloemhjbhaa", sum := "e7b5a05cc8fb4c4608acc8a21adac514c0e6c455671f0d72f04951a1cdddedf4", checked := Try.checked }
namespace Rows
def none {H : Type} : Left H := { results := [], args := [] }

/-- 'gauntletlaw14.RollbackRight': WHATEVER THE INPUT: true; the input reads as it did. -/
def rollbackRightSpec : ChangeSpec := { name := "rollbackRight", fn := fun _ => fun
  | [d1, d2, d3] => { results := [.lit (.bool true)], args := [d1, d2, d3] }
  | _ => none }
def rollbackRightRow : OpenClaim := { program := "ytjdeeloemhjbhaa", sum := "e7b5a05cc8fb4c4608acc8a21adac514c0e6c455671f0d72f04951a1cdddedf4", func := "gauntlet/gauntletlaw14.RollbackRight", spec := "rollbackRight", unfollowed := true, recurses := true, apart := false }
def RollbackRightSaid : Prop := rollbackRightRow.holds Try.pinned (OpenSpec.ofChange rollbackRightSpec)

/-- ITS FALSE NEIGHBOUR: 'it returns false'. Refute it at one input. -/
def rollbackRightWrong : ChangeSpec := { name := "rollbackRight", fn := fun _ => fun
  | [d1, d2, d3] => { results := [.lit (.bool false)], args := [d1, d2, d3] }
  | _ => none }
def RollbackRightWrongFalsely : Prop := rollbackRightRow.holds Try.pinned (OpenSpec.ofChange rollbackRightWrong)

/-- 'gauntletlaw14.RollbackOver': WHATEVER THE INPUT: true; the input reads as it did. -/
def rollbackOverSpec : ChangeSpec := { name := "rollbackOver", fn := fun _ => fun
  | [d1, d2] => { results := [.lit (.bool true)], args := [d1, d2] }
  | _ => none }
def rollbackOverRow : OpenClaim := { program := "ytjdeeloemhjbhaa", sum := "e7b5a05cc8fb4c4608acc8a21adac514c0e6c455671f0d72f04951a1cdddedf4", func := "gauntlet/gauntletlaw14.RollbackOver", spec := "rollbackOver", unfollowed := true, recurses := true, apart := false }
def RollbackOverSaid : Prop := rollbackOverRow.holds Try.pinned (OpenSpec.ofChange rollbackOverSpec)

/-- ITS FALSE NEIGHBOUR: 'it returns false'. Refute it at one input. -/
def rollbackOverWrong : ChangeSpec := { name := "rollbackOver", fn := fun _ => fun
  | [d1, d2] => { results := [.lit (.bool false)], args := [d1, d2] }
  | _ => none }
def RollbackOverWrongFalsely : Prop := rollbackOverRow.holds Try.pinned (OpenSpec.ofChange rollbackOverWrong)

/-- 'gauntletlaw14.RollbackAhead': WHATEVER THE INPUT: true; the input reads as it did. -/
def rollbackAheadSpec : ChangeSpec := { name := "rollbackAhead", fn := fun _ => fun
  | [d] => { results := [.lit (.bool true)], args := [d] }
  | _ => none }
def rollbackAheadRow : OpenClaim := { program := "ytjdeeloemhjbhaa", sum := "e7b5a05cc8fb4c4608acc8a21adac514c0e6c455671f0d72f04951a1cdddedf4", func := "gauntlet/gauntletlaw14.RollbackAhead", spec := "rollbackAhead", unfollowed := true, recurses := true, apart := false }
def RollbackAheadSaid : Prop := rollbackAheadRow.holds Try.pinned (OpenSpec.ofChange rollbackAheadSpec)

/-- ITS FALSE NEIGHBOUR: 'it returns false'. Refute it at one input. -/
def rollbackAheadWrong : ChangeSpec := { name := "rollbackAhead", fn := fun _ => fun
  | [d] => { results := [.lit (.bool false)], args := [d] }
  | _ => none }
def RollbackAheadWrongFalsely : Prop := rollbackAheadRow.holds Try.pinned (OpenSpec.ofChange rollbackAheadWrong)

/-- 'gauntletlaw14.RollbackOfNothing': WHATEVER THE INPUT: true; the input reads as it did. -/
def rollbackOfNothingSpec : ChangeSpec := { name := "rollbackOfNothing", fn := fun _ => fun
  | [d1, d2, d3] => { results := [.lit (.bool true)], args := [d1, d2, d3] }
  | _ => none }
def rollbackOfNothingRow : OpenClaim := { program := "ytjdeeloemhjbhaa", sum := "e7b5a05cc8fb4c4608acc8a21adac514c0e6c455671f0d72f04951a1cdddedf4", func := "gauntlet/gauntletlaw14.RollbackOfNothing", spec := "rollbackOfNothing", unfollowed := true, recurses := true, apart := false }
def RollbackOfNothingSaid : Prop := rollbackOfNothingRow.holds Try.pinned (OpenSpec.ofChange rollbackOfNothingSpec)

/-- ITS FALSE NEIGHBOUR: 'it returns false'. Refute it at one input. -/
def rollbackOfNothingWrong : ChangeSpec := { name := "rollbackOfNothing", fn := fun _ => fun
  | [d1, d2, d3] => { results := [.lit (.bool false)], args := [d1, d2, d3] }
  | _ => none }
def RollbackOfNothingWrongFalsely : Prop := rollbackOfNothingRow.holds Try.pinned (OpenSpec.ofChange rollbackOfNothingWrong)

/- THE SECOND FORM. 'bulk': how many values and letters a reading holds, each counted each time it is reached (what is shared counts as often as it is met; a slice's spare places count too). A statement '..UptoSaid' is the law's where the arguments, and the package variables that the reading takes, are together of bulk at most 1048576: NARROWER than '..Said'. Prove '..Said' where nothing that the law and all that it calls make is longer than what came in: it says more and counts as full. Else prove '..UptoSaid'. A law counts once. -/
mutual
def uptoBulk {H : Type} : DataW H → Nat
  | .lit (.string bytes) => bytes.length + 1
  | .lit _ => 1
  | .nil => 1
  | .ptr d => uptoBulk d + 1
  | .slice elems spare => uptoBulkAll elems + uptoBulkAll spare + 1
  | .agg parts => uptoBulkAll parts + 1
  | .iface _ d => uptoBulk d + 1
  | .map entries => uptoBulkEntries entries + 1
  | .held _ => 1
def uptoBulkAll {H : Type} : List (DataW H) → Nat
  | [] => 0
  | d :: r => uptoBulk d + uptoBulkAll r
def uptoBulkEntries {H : Type} : List (Lit × DataW H) → Nat
  | [] => 0
  | x :: r => uptoBulkEntry x + uptoBulkEntries r
def uptoBulkEntry {H : Type} : Lit × DataW H → Nat
  | (.string bytes, d) => bytes.length + uptoBulk d + 1
  | (_, d) => uptoBulk d + 1
 end
def uptoSmall : (H : Type) → List (DataW H) → Bool := fun _ ds => decide (uptoBulkAll ds ≤ 1048576)
def OpenSpec.upto (s : _root_.Go.ChangeSpec) : _root_.Go.OpenSpec := { _root_.Go.OpenSpec.ofChange s with cond := some uptoSmall }

/-- 'gauntletlaw14.RollbackRight', WHERE WHAT IT READS IS OF BULK AT MOST 1048576: true; the input reads as it did. -/
def rollbackRightUptoRow : OpenClaim := { program := "ytjdeeloemhjbhaa", sum := "e7b5a05cc8fb4c4608acc8a21adac514c0e6c455671f0d72f04951a1cdddedf4", func := "gauntlet/gauntletlaw14.RollbackRight", spec := "rollbackRight", unfollowed := true, recurses := true, apart := false, narrowed := true }
def RollbackRightUptoSaid : Prop := rollbackRightUptoRow.holds Try.pinned (OpenSpec.upto rollbackRightSpec)

/-- 'gauntletlaw14.RollbackOver', WHERE WHAT IT READS IS OF BULK AT MOST 1048576: true; the input reads as it did. -/
def rollbackOverUptoRow : OpenClaim := { program := "ytjdeeloemhjbhaa", sum := "e7b5a05cc8fb4c4608acc8a21adac514c0e6c455671f0d72f04951a1cdddedf4", func := "gauntlet/gauntletlaw14.RollbackOver", spec := "rollbackOver", unfollowed := true, recurses := true, apart := false, narrowed := true }
def RollbackOverUptoSaid : Prop := rollbackOverUptoRow.holds Try.pinned (OpenSpec.upto rollbackOverSpec)

/-- 'gauntletlaw14.RollbackAhead', WHERE WHAT IT READS IS OF BULK AT MOST 1048576: true; the input reads as it did. -/
def rollbackAheadUptoRow : OpenClaim := { program := "ytjdeeloemhjbhaa", sum := "e7b5a05cc8fb4c4608acc8a21adac514c0e6c455671f0d72f04951a1cdddedf4", func := "gauntlet/gauntletlaw14.RollbackAhead", spec := "rollbackAhead", unfollowed := true, recurses := true, apart := false, narrowed := true }
def RollbackAheadUptoSaid : Prop := rollbackAheadUptoRow.holds Try.pinned (OpenSpec.upto rollbackAheadSpec)

/-- 'gauntletlaw14.RollbackOfNothing', WHERE WHAT IT READS IS OF BULK AT MOST 1048576: true; the input reads as it did. -/
def rollbackOfNothingUptoRow : OpenClaim := { program := "ytjdeeloemhjbhaa", sum := "e7b5a05cc8fb4c4608acc8a21adac514c0e6c455671f0d72f04951a1cdddedf4", func := "gauntlet/gauntletlaw14.RollbackOfNothing", spec := "rollbackOfNothing", unfollowed := true, recurses := true, apart := false, narrowed := true }
def RollbackOfNothingUptoSaid : Prop := rollbackOfNothingUptoRow.holds Try.pinned (OpenSpec.upto rollbackOfNothingSpec)

end Rows
end Go.Proofs.Ytjdeeloemhjbhaa
