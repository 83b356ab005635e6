/-
  No cell of these rows narrows 'for every input' (looked for: loops, veiled, ifaces, maps, wideKeys, modest, calm, conditions, laid).
  DERIVED. THE GIVEN ROWS OF THIS SEAT. 4 by the template 'for every input the law returns true; each argument reads behind the call as it read before'; 0 by the template 'total and deterministic' (their statements: YtbjhhkhhfjmnjaaTotals.lean).
  GIVEN WITH THE SEED: the statements are not yours to turn. If you find one false, say at which input.
  Laid BY PROGRAM, IN A SANDBOX (cutbox-rows.mjs): the forced cells as the released guide's own fill.sh prints them over the translation 300ece43e4637c8a… (all of the seat's roots in one cut). By AI agents, Wed Nov 11 2026. No macro, syntax, notation, axiom, sorry.
-/
import Derived.Test.YtbjhhkhhfjmnjaaChecked
import GoSem.Claim
import GoSem.ClaimJoined
import GoSem.ClaimMapViews
import Derived.JoinedTies
import Derived.KernelRfl
namespace Go.Proofs.Ytbjhhkhhfjmnjaa
/- THE CELL 'sum', in the pinned program and in every row, IS THE sha256 OF THE DUMP (.gsa) THAT YtbjhhkhhfjmnjaaProg.lean LOADS. Nothing in Lean hashes anything: it is a label: what it is worth is what the hold of that sum in a sandbox is worth. -/
noncomputable def Try.pinned : Pinned := { name := "ytbjhhkhhfjmnjaa", sum := "300ece43e4637c8a2e58c6f55cabff45c827b671dbf79180912456013adb655c", checked := Try.checked }
namespace Rows
def none {H : Type} : Left H := { results := [], args := [] }

/-- 'gauntletlaw12.InputsGuess': WHATEVER THE INPUT: true; the input reads as it did. -/
def inputsGuessSpec : ChangeSpec := { name := "inputsGuess", fn := fun _ => fun
  | [d1, d2, d3] => { results := [.lit (.bool true)], args := [d1, d2, d3] }
  | _ => none }
def inputsGuessRow : OpenClaim := { program := "ytbjhhkhhfjmnjaa", sum := "300ece43e4637c8a2e58c6f55cabff45c827b671dbf79180912456013adb655c", func := "gauntlet/gauntletlaw12.InputsGuess", spec := "inputsGuess", apart := false }
def InputsGuessSaid : Prop := inputsGuessRow.holds Try.pinned (OpenSpec.ofChange inputsGuessSpec)

/-- ITS FALSE NEIGHBOUR: 'it returns false'. Refute it at one input. -/
def inputsGuessWrong : ChangeSpec := { name := "inputsGuess", fn := fun _ => fun
  | [d1, d2, d3] => { results := [.lit (.bool false)], args := [d1, d2, d3] }
  | _ => none }
def InputsGuessWrongFalsely : Prop := inputsGuessRow.holds Try.pinned (OpenSpec.ofChange inputsGuessWrong)

/-- 'gauntletlaw12.InputsPlay': WHATEVER THE INPUT: true; the input reads as it did. -/
def inputsPlaySpec : ChangeSpec := { name := "inputsPlay", fn := fun _ => fun
  | [d1, d2, d3] => { results := [.lit (.bool true)], args := [d1, d2, d3] }
  | _ => none }
def inputsPlayRow : OpenClaim := { program := "ytbjhhkhhfjmnjaa", sum := "300ece43e4637c8a2e58c6f55cabff45c827b671dbf79180912456013adb655c", func := "gauntlet/gauntletlaw12.InputsPlay", spec := "inputsPlay", unfollowed := true, recurses := true, apart := false }
def InputsPlaySaid : Prop := inputsPlayRow.holds Try.pinned (OpenSpec.ofChange inputsPlaySpec)

/-- ITS FALSE NEIGHBOUR: 'it returns false'. Refute it at one input. -/
def inputsPlayWrong : ChangeSpec := { name := "inputsPlay", fn := fun _ => fun
  | [d1, d2, d3] => { results := [.lit (.bool false)], args := [d1, d2, d3] }
  | _ => none }
def InputsPlayWrongFalsely : Prop := inputsPlayRow.holds Try.pinned (OpenSpec.ofChange inputsPlayWrong)

/-- 'gauntletlaw12.InputsAnyOrder': WHATEVER THE INPUT: true; the input reads as it did. -/
def inputsAnyOrderSpec : ChangeSpec := { name := "inputsAnyOrder", fn := fun _ => fun
  | [d1, d2, d3] => { results := [.lit (.bool true)], args := [d1, d2, d3] }
  | _ => none }
def inputsAnyOrderRow : OpenClaim := { program := "ytbjhhkhhfjmnjaa", sum := "300ece43e4637c8a2e58c6f55cabff45c827b671dbf79180912456013adb655c", func := "gauntlet/gauntletlaw12.InputsAnyOrder", spec := "inputsAnyOrder", unfollowed := true, recurses := true, apart := false }
def InputsAnyOrderSaid : Prop := inputsAnyOrderRow.holds Try.pinned (OpenSpec.ofChange inputsAnyOrderSpec)

/-- ITS FALSE NEIGHBOUR: 'it returns false'. Refute it at one input. -/
def inputsAnyOrderWrong : ChangeSpec := { name := "inputsAnyOrder", fn := fun _ => fun
  | [d1, d2, d3] => { results := [.lit (.bool false)], args := [d1, d2, d3] }
  | _ => none }
def InputsAnyOrderWrongFalsely : Prop := inputsAnyOrderRow.holds Try.pinned (OpenSpec.ofChange inputsAnyOrderWrong)

/-- 'gauntletlaw12.InputsOfNothing': WHATEVER THE INPUT: true; the input reads as it did. -/
def inputsOfNothingSpec : ChangeSpec := { name := "inputsOfNothing", fn := fun _ => fun
  | [d] => { results := [.lit (.bool true)], args := [d] }
  | _ => none }
def inputsOfNothingRow : OpenClaim := { program := "ytbjhhkhhfjmnjaa", sum := "300ece43e4637c8a2e58c6f55cabff45c827b671dbf79180912456013adb655c", func := "gauntlet/gauntletlaw12.InputsOfNothing", spec := "inputsOfNothing", unfollowed := true, recurses := true, apart := false }
def InputsOfNothingSaid : Prop := inputsOfNothingRow.holds Try.pinned (OpenSpec.ofChange inputsOfNothingSpec)

/-- ITS FALSE NEIGHBOUR: 'it returns false'. Refute it at one input. -/
def inputsOfNothingWrong : ChangeSpec := { name := "inputsOfNothing", fn := fun _ => fun
  | [d] => { results := [.lit (.bool false)], args := [d] }
  | _ => none }
def InputsOfNothingWrongFalsely : Prop := inputsOfNothingRow.holds Try.pinned (OpenSpec.ofChange inputsOfNothingWrong)

/- THE SECOND FORM. 'bulk': how many values and letters a reading holds, each counted each time it is reached (what is shared counts as often as it is met; a slice's spare places count too). A statement '..UptoSaid' is the law's where the arguments, and the package variables that the reading takes, are together of bulk at most 1048576: NARROWER than '..Said'. Prove '..Said' where nothing that the law and all that it calls make is longer than what came in: it says more and counts as full. Else prove '..UptoSaid'. A law counts once. -/
mutual
def uptoBulk {H : Type} : DataW H → Nat
  | .lit (.string bytes) => bytes.length + 1
  | .lit _ => 1
  | .nil => 1
  | .ptr d => uptoBulk d + 1
  | .slice elems spare => uptoBulkAll elems + uptoBulkAll spare + 1
  | .agg parts => uptoBulkAll parts + 1
  | .iface _ d => uptoBulk d + 1
  | .map entries => uptoBulkEntries entries + 1
  | .held _ => 1
def uptoBulkAll {H : Type} : List (DataW H) → Nat
  | [] => 0
  | d :: r => uptoBulk d + uptoBulkAll r
def uptoBulkEntries {H : Type} : List (Lit × DataW H) → Nat
  | [] => 0
  | x :: r => uptoBulkEntry x + uptoBulkEntries r
def uptoBulkEntry {H : Type} : Lit × DataW H → Nat
  | (.string bytes, d) => bytes.length + uptoBulk d + 1
  | (_, d) => uptoBulk d + 1
 end
def uptoSmall : (H : Type) → List (DataW H) → Bool := fun _ ds => decide (uptoBulkAll ds ≤ 1048576)
def OpenSpec.upto (s : _root_.Go.ChangeSpec) : _root_.Go.OpenSpec := { _root_.Go.OpenSpec.ofChange s with cond := some uptoSmall }

/-- 'gauntletlaw12.InputsGuess', WHERE WHAT IT READS IS OF BULK AT MOST 1048576: true; the input reads as it did. -/
def inputsGuessUptoRow : OpenClaim := { program := "ytbjhhkhhfjmnjaa", sum := "300ece43e4637c8a2e58c6f55cabff45c827b671dbf79180912456013adb655c", func := "gauntlet/gauntletlaw12.InputsGuess", spec := "inputsGuess", apart := false, narrowed := true }
def InputsGuessUptoSaid : Prop := inputsGuessUptoRow.holds Try.pinned (OpenSpec.upto inputsGuessSpec)

/-- 'gauntletlaw12.InputsPlay', WHERE WHAT IT READS IS OF BULK AT MOST 1048576: true; the input reads as it did. -/
def inputsPlayUptoRow : OpenClaim := { program := "ytbjhhkhhfjmnjaa", sum := "300ece43e4637c8a2e58c6f55cabff45c827b671dbf79180912456013adb655c", func := "gauntlet/gauntletlaw12.InputsPlay", spec := "inputsPlay", unfollowed := true, recurses := true, apart := false, narrowed := true }
def InputsPlayUptoSaid : Prop := inputsPlayUptoRow.holds Try.pinned (OpenSpec.upto inputsPlaySpec)

/-- 'gauntletlaw12.InputsAnyOrder', WHERE WHAT IT READS IS OF BULK AT MOST 1048576: true; the input reads as it did. -/
def inputsAnyOrderUptoRow : OpenClaim := { program := "ytbjhhkhhfjmnjaa", sum := "300ece43e4637c8a2e58c6f55cabff45c827b671dbf79180912456013adb655c", func := "gauntlet/gauntletlaw12.InputsAnyOrder", spec := "inputsAnyOrder", unfollowed := true, recurses := true, apart := false, narrowed := true }
def InputsAnyOrderUptoSaid : Prop := inputsAnyOrderUptoRow.holds Try.pinned (OpenSpec.upto inputsAnyOrderSpec)

/-- 'gauntletlaw12.InputsOfNothing', WHERE WHAT IT READS IS OF BULK AT MOST 1048576: true; the input reads as it did. -/
def inputsOfNothingUptoRow : OpenClaim := { program := "ytbjhhkhhfjmnjaa", sum := "300ece43e4637c8a2e58c6f55cabff45c827b671dbf79180912456013adb655c", func := "gauntlet/gauntletlaw12.InputsOfNothing", spec := "inputsOfNothing", unfollowed := true, recurses := true, apart := false, narrowed := true }
def InputsOfNothingUptoSaid : Prop := inputsOfNothingUptoRow.holds Try.pinned (OpenSpec.upto inputsOfNothingSpec)

end Rows
end Go.Proofs.Ytbjhhkhhfjmnjaa
