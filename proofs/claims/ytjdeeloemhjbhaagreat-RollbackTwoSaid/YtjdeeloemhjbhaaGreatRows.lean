/-
  No cell of these rows narrows 'for every input' (looked for: loops, veiled, ifaces, maps, wideKeys, modest, calm, conditions, laid).
  DERIVED. THE GIVEN ROWS OF THIS SEAT. 4 by the template 'for every input the law returns true; each argument reads behind the call as it read before'; 0 by the template 'total and deterministic' (their statements: YtjdeeloemhjbhaaGreatTotals.lean).
  GIVEN WITH THE SEED: the statements are not yours to turn. If you find one false, say at which input.
  Laid BY PROGRAM, IN A SANDBOX (cutbox-rows.mjs): the forced cells as the released guide's own fill.sh prints them over the translation b0539b42eac75c3b… (all of the seat's roots in one cut). By AI agents, Wed Nov 11 2026. No macro, syntax, notation, axiom, sorry.
-/
import Derived.Test.YtjdeeloemhjbhaaGreatChecked
import GoSem.Claim
import GoSem.ClaimJoined
import GoSem.ClaimMapViews
import Derived.JoinedTies
import Derived.KernelRfl
namespace Go.Proofs.YtjdeeloemhjbhaaGreat
/- THE CELL 'sum', in the pinned program and in every row, IS THE sha256 OF THE DUMP (.gsa) THAT YtjdeeloemhjbhaaGreatProg.lean LOADS. Nothing in Lean hashes anything: it is a label: what it is worth is what the hold of that sum in a sandbox is worth. -/
noncomputable def Tryz.pinned : Pinned := { name := "ytjdeeloemhjbhaagreat", sum := "b0539b42eac75c3b1b8686ab838589aca166ecc9a86d9d166a7421efe9fccbfa", checked := Tryz.checked }
namespace Rows
def none {H : Type} : Left H := { results := [], args := [] }

/-- 'gauntletlaw14.RollbackSure': WHATEVER THE INPUT: true; the input reads as it did. -/
def rollbackSureSpec : ChangeSpec := { name := "rollbackSure", fn := fun _ => fun
  | [d1, d2, d3, d4, d5, d6] => { results := [.lit (.bool true)], args := [d1, d2, d3, d4, d5, d6] }
  | _ => none }
def rollbackSureRow : OpenClaim := { program := "ytjdeeloemhjbhaagreat", sum := "b0539b42eac75c3b1b8686ab838589aca166ecc9a86d9d166a7421efe9fccbfa", func := "gauntlet/gauntletlaw14.RollbackSure", spec := "rollbackSure", unfollowed := true, recurses := true, apart := false }
def RollbackSureSaid : Prop := rollbackSureRow.holds Tryz.pinned (OpenSpec.ofChange rollbackSureSpec)

/-- ITS FALSE NEIGHBOUR: 'it returns false'. Refute it at one input. -/
def rollbackSureWrong : ChangeSpec := { name := "rollbackSure", fn := fun _ => fun
  | [d1, d2, d3, d4, d5, d6] => { results := [.lit (.bool false)], args := [d1, d2, d3, d4, d5, d6] }
  | _ => none }
def RollbackSureWrongFalsely : Prop := rollbackSureRow.holds Tryz.pinned (OpenSpec.ofChange rollbackSureWrong)

/-- 'gauntletlaw14.RollbackTwo': WHATEVER THE INPUT: true; the input reads as it did. -/
def rollbackTwoSpec : ChangeSpec := { name := "rollbackTwo", fn := fun _ => fun
  | [d1, d2, d3, d4, d5] => { results := [.lit (.bool true)], args := [d1, d2, d3, d4, d5] }
  | _ => none }
def rollbackTwoRow : OpenClaim := { program := "ytjdeeloemhjbhaagreat", sum := "b0539b42eac75c3b1b8686ab838589aca166ecc9a86d9d166a7421efe9fccbfa", func := "gauntlet/gauntletlaw14.RollbackTwo", spec := "rollbackTwo", unfollowed := true, recurses := true, apart := false }
def RollbackTwoSaid : Prop := rollbackTwoRow.holds Tryz.pinned (OpenSpec.ofChange rollbackTwoSpec)

/-- ITS FALSE NEIGHBOUR: 'it returns false'. Refute it at one input. -/
def rollbackTwoWrong : ChangeSpec := { name := "rollbackTwo", fn := fun _ => fun
  | [d1, d2, d3, d4, d5] => { results := [.lit (.bool false)], args := [d1, d2, d3, d4, d5] }
  | _ => none }
def RollbackTwoWrongFalsely : Prop := rollbackTwoRow.holds Tryz.pinned (OpenSpec.ofChange rollbackTwoWrong)

/-- 'gauntletlaw14.RollbackPlays': WHATEVER THE INPUT: true; the input reads as it did. -/
def rollbackPlaysSpec : ChangeSpec := { name := "rollbackPlays", fn := fun _ => fun
  | [d1, d2, d3, d4] => { results := [.lit (.bool true)], args := [d1, d2, d3, d4] }
  | _ => none }
def rollbackPlaysRow : OpenClaim := { program := "ytjdeeloemhjbhaagreat", sum := "b0539b42eac75c3b1b8686ab838589aca166ecc9a86d9d166a7421efe9fccbfa", func := "gauntlet/gauntletlaw14.RollbackPlays", spec := "rollbackPlays", unfollowed := true, recurses := true, apart := false }
def RollbackPlaysSaid : Prop := rollbackPlaysRow.holds Tryz.pinned (OpenSpec.ofChange rollbackPlaysSpec)

/-- ITS FALSE NEIGHBOUR: 'it returns false'. Refute it at one input. -/
def rollbackPlaysWrong : ChangeSpec := { name := "rollbackPlays", fn := fun _ => fun
  | [d1, d2, d3, d4] => { results := [.lit (.bool false)], args := [d1, d2, d3, d4] }
  | _ => none }
def RollbackPlaysWrongFalsely : Prop := rollbackPlaysRow.holds Tryz.pinned (OpenSpec.ofChange rollbackPlaysWrong)

/-- 'gauntletlaw14.RollbackOrder': WHATEVER THE INPUT: true; the input reads as it did. -/
def rollbackOrderSpec : ChangeSpec := { name := "rollbackOrder", fn := fun _ => fun
  | [d1, d2, d3, d4, d5] => { results := [.lit (.bool true)], args := [d1, d2, d3, d4, d5] }
  | _ => none }
def rollbackOrderRow : OpenClaim := { program := "ytjdeeloemhjbhaagreat", sum := "b0539b42eac75c3b1b8686ab838589aca166ecc9a86d9d166a7421efe9fccbfa", func := "gauntlet/gauntletlaw14.RollbackOrder", spec := "rollbackOrder", unfollowed := true, recurses := true, apart := false }
def RollbackOrderSaid : Prop := rollbackOrderRow.holds Tryz.pinned (OpenSpec.ofChange rollbackOrderSpec)

/-- ITS FALSE NEIGHBOUR: 'it returns false'. Refute it at one input. -/
def rollbackOrderWrong : ChangeSpec := { name := "rollbackOrder", fn := fun _ => fun
  | [d1, d2, d3, d4, d5] => { results := [.lit (.bool false)], args := [d1, d2, d3, d4, d5] }
  | _ => none }
def RollbackOrderWrongFalsely : Prop := rollbackOrderRow.holds Tryz.pinned (OpenSpec.ofChange rollbackOrderWrong)

/- THE SECOND FORM. 'bulk': how many values and letters a reading holds, each counted each time it is reached (what is shared counts as often as it is met; a slice's spare places count too). A statement '..UptoSaid' is the law's where the arguments, and the package variables that the reading takes, are together of bulk at most 1048576: NARROWER than '..Said'. Prove '..Said' where nothing that the law and all that it calls make is longer than what came in: it says more and counts as full. Else prove '..UptoSaid'. A law counts once. -/
mutual
def uptoBulk {H : Type} : DataW H → Nat
  | .lit (.string bytes) => bytes.length + 1
  | .lit _ => 1
  | .nil => 1
  | .ptr d => uptoBulk d + 1
  | .slice elems spare => uptoBulkAll elems + uptoBulkAll spare + 1
  | .agg parts => uptoBulkAll parts + 1
  | .iface _ d => uptoBulk d + 1
  | .map entries => uptoBulkEntries entries + 1
  | .held _ => 1
def uptoBulkAll {H : Type} : List (DataW H) → Nat
  | [] => 0
  | d :: r => uptoBulk d + uptoBulkAll r
def uptoBulkEntries {H : Type} : List (Lit × DataW H) → Nat
  | [] => 0
  | x :: r => uptoBulkEntry x + uptoBulkEntries r
def uptoBulkEntry {H : Type} : Lit × DataW H → Nat
  | (.string bytes, d) => bytes.length + uptoBulk d + 1
  | (_, d) => uptoBulk d + 1
 end
def uptoSmall : (H : Type) → List (DataW H) → Bool := fun _ ds => decide (uptoBulkAll ds ≤ 1048576)
def OpenSpec.upto (s : _root_.Go.ChangeSpec) : _root_.Go.OpenSpec := { _root_.Go.OpenSpec.ofChange s with cond := some uptoSmall }

/-- 'gauntletlaw14.RollbackSure', WHERE WHAT IT READS IS OF BULK AT MOST 1048576: true; the input reads as it did. -/
def rollbackSureUptoRow : OpenClaim := { program := "ytjdeeloemhjbhaagreat", sum := "b0539b42eac75c3b1b8686ab838589aca166ecc9a86d9d166a7421efe9fccbfa", func := "gauntlet/gauntletlaw14.RollbackSure", spec := "rollbackSure", unfollowed := true, recurses := true, apart := false, narrowed := true }
def RollbackSureUptoSaid : Prop := rollbackSureUptoRow.holds Tryz.pinned (OpenSpec.upto rollbackSureSpec)

/-- 'gauntletlaw14.RollbackTwo', WHERE WHAT IT READS IS OF BULK AT MOST 1048576: true; the input reads as it did. -/
def rollbackTwoUptoRow : OpenClaim := { program := "ytjdeeloemhjbhaagreat", sum := "b0539b42eac75c3b1b8686ab838589aca166ecc9a86d9d166a7421efe9fccbfa", func := "gauntlet/gauntletlaw14.RollbackTwo", spec := "rollbackTwo", unfollowed := true, recurses := true, apart := false, narrowed := true }
def RollbackTwoUptoSaid : Prop := rollbackTwoUptoRow.holds Tryz.pinned (OpenSpec.upto rollbackTwoSpec)

/-- 'gauntletlaw14.RollbackPlays', WHERE WHAT IT READS IS OF BULK AT MOST 1048576: true; the input reads as it did. -/
def rollbackPlaysUptoRow : OpenClaim := { program := "ytjdeeloemhjbhaagreat", sum := "b0539b42eac75c3b1b8686ab838589aca166ecc9a86d9d166a7421efe9fccbfa", func := "gauntlet/gauntletlaw14.RollbackPlays", spec := "rollbackPlays", unfollowed := true, recurses := true, apart := false, narrowed := true }
def RollbackPlaysUptoSaid : Prop := rollbackPlaysUptoRow.holds Tryz.pinned (OpenSpec.upto rollbackPlaysSpec)

/-- 'gauntletlaw14.RollbackOrder', WHERE WHAT IT READS IS OF BULK AT MOST 1048576: true; the input reads as it did. -/
def rollbackOrderUptoRow : OpenClaim := { program := "ytjdeeloemhjbhaagreat", sum := "b0539b42eac75c3b1b8686ab838589aca166ecc9a86d9d166a7421efe9fccbfa", func := "gauntlet/gauntletlaw14.RollbackOrder", spec := "rollbackOrder", unfollowed := true, recurses := true, apart := false, narrowed := true }
def RollbackOrderUptoSaid : Prop := rollbackOrderUptoRow.holds Tryz.pinned (OpenSpec.upto rollbackOrderSpec)

end Rows
end Go.Proofs.YtjdeeloemhjbhaaGreat
