/-
  No cell of these rows narrows 'for every input' (looked for: loops, veiled, ifaces, maps, wideKeys, modest, calm, conditions, laid).
  DERIVED. THE GIVEN ROWS OF THIS SEAT. 9 by the template 'for every input the law returns true; each argument reads behind the call as it read before'; 0 by the template 'total and deterministic' (their statements: YtdgalljalcediaaTotals.lean).
  GIVEN WITH THE SEED: the statements are not yours to turn. If you find one false, say at which input.
  Laid BY PROGRAM, IN A SANDBOX (cutbox-rows.mjs): the forced cells as the released guide's own fill.sh prints them over the translation 8ff82a183fe91eb4… (all of the seat's roots in one cut). By AI agents, Wed Nov 11 2026. No macro, syntax, notation, axiom, sorry.
-/
import Derived.Test.YtdgalljalcediaaChecked
import GoSem.Claim
import GoSem.ClaimJoined
import GoSem.ClaimMapViews
import Derived.JoinedTies
import Derived.KernelRfl
namespace Go.Proofs.Ytdgalljalcediaa
/- THE CELL 'sum', in the pinned program and in every row, IS THE sha256 OF THE DUMP (.gsa) THAT YtdgalljalcediaaProg.lean LOADS. Nothing in Lean hashes anything: it is a label: what it is worth is what the hold of that sum in a sandbox is worth. -/
noncomputable def Try.pinned : Pinned := { name := "ytdgalljalcediaa", sum := "8ff82a183fe91eb4edcabd8704ea7e53d44ce90470ecff489f93c710288ea30a", checked := Try.checked }
namespace Rows
def none {H : Type} : Left H := { results := [], args := [] }

/-- 'gauntletlaw16.LinkWindow': WHATEVER THE INPUT: true; the input reads as it did. -/
def linkWindowSpec : ChangeSpec := { name := "linkWindow", fn := fun _ => fun
  | [d1, d2] => { results := [.lit (.bool true)], args := [d1, d2] }
  | _ => none }
def linkWindowRow : OpenClaim := { program := "ytdgalljalcediaa", sum := "8ff82a183fe91eb4edcabd8704ea7e53d44ce90470ecff489f93c710288ea30a", func := "gauntlet/gauntletlaw16.LinkWindow", spec := "linkWindow", unfollowed := true, recurses := true, apart := false }
def LinkWindowSaid : Prop := linkWindowRow.holds Try.pinned (OpenSpec.ofChange linkWindowSpec)

/-- ITS FALSE NEIGHBOUR: 'it returns false'. Refute it at one input. -/
def linkWindowWrong : ChangeSpec := { name := "linkWindow", fn := fun _ => fun
  | [d1, d2] => { results := [.lit (.bool false)], args := [d1, d2] }
  | _ => none }
def LinkWindowWrongFalsely : Prop := linkWindowRow.holds Try.pinned (OpenSpec.ofChange linkWindowWrong)

/-- 'gauntletlaw16.LinkFull': WHATEVER THE INPUT: true; the input reads as it did. -/
def linkFullSpec : ChangeSpec := { name := "linkFull", fn := fun _ => fun
  | [d] => { results := [.lit (.bool true)], args := [d] }
  | _ => none }
def linkFullRow : OpenClaim := { program := "ytdgalljalcediaa", sum := "8ff82a183fe91eb4edcabd8704ea7e53d44ce90470ecff489f93c710288ea30a", func := "gauntlet/gauntletlaw16.LinkFull", spec := "linkFull", unfollowed := true, recurses := true, apart := false }
def LinkFullSaid : Prop := linkFullRow.holds Try.pinned (OpenSpec.ofChange linkFullSpec)

/-- ITS FALSE NEIGHBOUR: 'it returns false'. Refute it at one input. -/
def linkFullWrong : ChangeSpec := { name := "linkFull", fn := fun _ => fun
  | [d] => { results := [.lit (.bool false)], args := [d] }
  | _ => none }
def LinkFullWrongFalsely : Prop := linkFullRow.holds Try.pinned (OpenSpec.ofChange linkFullWrong)

/-- 'gauntletlaw16.LinkAnyBytes': WHATEVER THE INPUT: true; the input reads as it did. -/
def linkAnyBytesSpec : ChangeSpec := { name := "linkAnyBytes", fn := fun _ => fun
  | [d1, d2] => { results := [.lit (.bool true)], args := [d1, d2] }
  | _ => none }
def linkAnyBytesRow : OpenClaim := { program := "ytdgalljalcediaa", sum := "8ff82a183fe91eb4edcabd8704ea7e53d44ce90470ecff489f93c710288ea30a", func := "gauntlet/gauntletlaw16.LinkAnyBytes", spec := "linkAnyBytes", unfollowed := true, recurses := true, apart := false }
def LinkAnyBytesSaid : Prop := linkAnyBytesRow.holds Try.pinned (OpenSpec.ofChange linkAnyBytesSpec)

/-- ITS FALSE NEIGHBOUR: 'it returns false'. Refute it at one input. -/
def linkAnyBytesWrong : ChangeSpec := { name := "linkAnyBytes", fn := fun _ => fun
  | [d1, d2] => { results := [.lit (.bool false)], args := [d1, d2] }
  | _ => none }
def LinkAnyBytesWrongFalsely : Prop := linkAnyBytesRow.holds Try.pinned (OpenSpec.ofChange linkAnyBytesWrong)

/-- 'gauntletlaw16.LinkIds': WHATEVER THE INPUT: true; the input reads as it did. -/
def linkIdsSpec : ChangeSpec := { name := "linkIds", fn := fun _ => fun
  | [d1, d2, d3] => { results := [.lit (.bool true)], args := [d1, d2, d3] }
  | _ => none }
def linkIdsRow : OpenClaim := { program := "ytdgalljalcediaa", sum := "8ff82a183fe91eb4edcabd8704ea7e53d44ce90470ecff489f93c710288ea30a", func := "gauntlet/gauntletlaw16.LinkIds", spec := "linkIds", unfollowed := true, recurses := true, apart := false }
def LinkIdsSaid : Prop := linkIdsRow.holds Try.pinned (OpenSpec.ofChange linkIdsSpec)

/-- ITS FALSE NEIGHBOUR: 'it returns false'. Refute it at one input. -/
def linkIdsWrong : ChangeSpec := { name := "linkIds", fn := fun _ => fun
  | [d1, d2, d3] => { results := [.lit (.bool false)], args := [d1, d2, d3] }
  | _ => none }
def LinkIdsWrongFalsely : Prop := linkIdsRow.holds Try.pinned (OpenSpec.ofChange linkIdsWrong)

/-- 'gauntletlaw16.LinkOrder': WHATEVER THE INPUT: true; the input reads as it did. -/
def linkOrderSpec : ChangeSpec := { name := "linkOrder", fn := fun _ => fun
  | [d1, d2, d3] => { results := [.lit (.bool true)], args := [d1, d2, d3] }
  | _ => none }
def linkOrderRow : OpenClaim := { program := "ytdgalljalcediaa", sum := "8ff82a183fe91eb4edcabd8704ea7e53d44ce90470ecff489f93c710288ea30a", func := "gauntlet/gauntletlaw16.LinkOrder", spec := "linkOrder", unfollowed := true, recurses := true, apart := false }
def LinkOrderSaid : Prop := linkOrderRow.holds Try.pinned (OpenSpec.ofChange linkOrderSpec)

/-- ITS FALSE NEIGHBOUR: 'it returns false'. Refute it at one input. -/
def linkOrderWrong : ChangeSpec := { name := "linkOrder", fn := fun _ => fun
  | [d1, d2, d3] => { results := [.lit (.bool false)], args := [d1, d2, d3] }
  | _ => none }
def LinkOrderWrongFalsely : Prop := linkOrderRow.holds Try.pinned (OpenSpec.ofChange linkOrderWrong)

/-- 'gauntletlaw16.LinkEnds': WHATEVER THE INPUT: true; the input reads as it did. -/
def linkEndsSpec : ChangeSpec := { name := "linkEnds", fn := fun _ => fun
  | [d1, d2] => { results := [.lit (.bool true)], args := [d1, d2] }
  | _ => none }
def linkEndsRow : OpenClaim := { program := "ytdgalljalcediaa", sum := "8ff82a183fe91eb4edcabd8704ea7e53d44ce90470ecff489f93c710288ea30a", func := "gauntlet/gauntletlaw16.LinkEnds", spec := "linkEnds", unfollowed := true, recurses := true, apart := false }
def LinkEndsSaid : Prop := linkEndsRow.holds Try.pinned (OpenSpec.ofChange linkEndsSpec)

/-- ITS FALSE NEIGHBOUR: 'it returns false'. Refute it at one input. -/
def linkEndsWrong : ChangeSpec := { name := "linkEnds", fn := fun _ => fun
  | [d1, d2] => { results := [.lit (.bool false)], args := [d1, d2] }
  | _ => none }
def LinkEndsWrongFalsely : Prop := linkEndsRow.holds Try.pinned (OpenSpec.ofChange linkEndsWrong)

/-- 'gauntletlaw16.LinkPlays': WHATEVER THE INPUT: true; the input reads as it did. -/
def linkPlaysSpec : ChangeSpec := { name := "linkPlays", fn := fun _ => fun
  | [d1, d2] => { results := [.lit (.bool true)], args := [d1, d2] }
  | _ => none }
def linkPlaysRow : OpenClaim := { program := "ytdgalljalcediaa", sum := "8ff82a183fe91eb4edcabd8704ea7e53d44ce90470ecff489f93c710288ea30a", func := "gauntlet/gauntletlaw16.LinkPlays", spec := "linkPlays", unfollowed := true, recurses := true, apart := false }
def LinkPlaysSaid : Prop := linkPlaysRow.holds Try.pinned (OpenSpec.ofChange linkPlaysSpec)

/-- ITS FALSE NEIGHBOUR: 'it returns false'. Refute it at one input. -/
def linkPlaysWrong : ChangeSpec := { name := "linkPlays", fn := fun _ => fun
  | [d1, d2] => { results := [.lit (.bool false)], args := [d1, d2] }
  | _ => none }
def LinkPlaysWrongFalsely : Prop := linkPlaysRow.holds Try.pinned (OpenSpec.ofChange linkPlaysWrong)

/-- 'gauntletlaw16.LinkOfNothing': WHATEVER THE INPUT: true; the input reads as it did. -/
def linkOfNothingSpec : ChangeSpec := { name := "linkOfNothing", fn := fun _ => fun
  | [d] => { results := [.lit (.bool true)], args := [d] }
  | _ => none }
def linkOfNothingRow : OpenClaim := { program := "ytdgalljalcediaa", sum := "8ff82a183fe91eb4edcabd8704ea7e53d44ce90470ecff489f93c710288ea30a", func := "gauntlet/gauntletlaw16.LinkOfNothing", spec := "linkOfNothing", unfollowed := true, recurses := true, apart := false }
def LinkOfNothingSaid : Prop := linkOfNothingRow.holds Try.pinned (OpenSpec.ofChange linkOfNothingSpec)

/-- ITS FALSE NEIGHBOUR: 'it returns false'. Refute it at one input. -/
def linkOfNothingWrong : ChangeSpec := { name := "linkOfNothing", fn := fun _ => fun
  | [d] => { results := [.lit (.bool false)], args := [d] }
  | _ => none }
def LinkOfNothingWrongFalsely : Prop := linkOfNothingRow.holds Try.pinned (OpenSpec.ofChange linkOfNothingWrong)

/-- 'gauntletlaw16.LinkTicks': WHATEVER THE INPUT: true; the input reads as it did. -/
def linkTicksSpec : ChangeSpec := { name := "linkTicks", fn := fun _ => fun
  | [d1, d2] => { results := [.lit (.bool true)], args := [d1, d2] }
  | _ => none }
def linkTicksRow : OpenClaim := { program := "ytdgalljalcediaa", sum := "8ff82a183fe91eb4edcabd8704ea7e53d44ce90470ecff489f93c710288ea30a", func := "gauntlet/gauntletlaw16.LinkTicks", spec := "linkTicks", unfollowed := true, recurses := true, apart := false }
def LinkTicksSaid : Prop := linkTicksRow.holds Try.pinned (OpenSpec.ofChange linkTicksSpec)

/-- ITS FALSE NEIGHBOUR: 'it returns false'. Refute it at one input. -/
def linkTicksWrong : ChangeSpec := { name := "linkTicks", fn := fun _ => fun
  | [d1, d2] => { results := [.lit (.bool false)], args := [d1, d2] }
  | _ => none }
def LinkTicksWrongFalsely : Prop := linkTicksRow.holds Try.pinned (OpenSpec.ofChange linkTicksWrong)

/- THE SECOND FORM. 'bulk': how many values and letters a reading holds, each counted each time it is reached (what is shared counts as often as it is met; a slice's spare places count too). A statement '..UptoSaid' is the law's where the arguments, and the package variables that the reading takes, are together of bulk at most 1048576: NARROWER than '..Said'. Prove '..Said' where nothing that the law and all that it calls make is longer than what came in: it says more and counts as full. Else prove '..UptoSaid'. A law counts once. -/
mutual
def uptoBulk {H : Type} : DataW H → Nat
  | .lit (.string bytes) => bytes.length + 1
  | .lit _ => 1
  | .nil => 1
  | .ptr d => uptoBulk d + 1
  | .slice elems spare => uptoBulkAll elems + uptoBulkAll spare + 1
  | .agg parts => uptoBulkAll parts + 1
  | .iface _ d => uptoBulk d + 1
  | .map entries => uptoBulkEntries entries + 1
  | .held _ => 1
def uptoBulkAll {H : Type} : List (DataW H) → Nat
  | [] => 0
  | d :: r => uptoBulk d + uptoBulkAll r
def uptoBulkEntries {H : Type} : List (Lit × DataW H) → Nat
  | [] => 0
  | x :: r => uptoBulkEntry x + uptoBulkEntries r
def uptoBulkEntry {H : Type} : Lit × DataW H → Nat
  | (.string bytes, d) => bytes.length + uptoBulk d + 1
  | (_, d) => uptoBulk d + 1
 end
def uptoSmall : (H : Type) → List (DataW H) → Bool := fun _ ds => decide (uptoBulkAll ds ≤ 1048576)
def OpenSpec.upto (s : _root_.Go.ChangeSpec) : _root_.Go.OpenSpec := { _root_.Go.OpenSpec.ofChange s with cond := some uptoSmall }

/-- 'gauntletlaw16.LinkWindow', WHERE WHAT IT READS IS OF BULK AT MOST 1048576: true; the input reads as it did. -/
def linkWindowUptoRow : OpenClaim := { program := "ytdgalljalcediaa", sum := "8ff82a183fe91eb4edcabd8704ea7e53d44ce90470ecff489f93c710288ea30a", func := "gauntlet/gauntletlaw16.LinkWindow", spec := "linkWindow", unfollowed := true, recurses := true, apart := false, narrowed := true }
def LinkWindowUptoSaid : Prop := linkWindowUptoRow.holds Try.pinned (OpenSpec.upto linkWindowSpec)

/-- 'gauntletlaw16.LinkFull', WHERE WHAT IT READS IS OF BULK AT MOST 1048576: true; the input reads as it did. -/
def linkFullUptoRow : OpenClaim := { program := "ytdgalljalcediaa", sum := "8ff82a183fe91eb4edcabd8704ea7e53d44ce90470ecff489f93c710288ea30a", func := "gauntlet/gauntletlaw16.LinkFull", spec := "linkFull", unfollowed := true, recurses := true, apart := false, narrowed := true }
def LinkFullUptoSaid : Prop := linkFullUptoRow.holds Try.pinned (OpenSpec.upto linkFullSpec)

/-- 'gauntletlaw16.LinkAnyBytes', WHERE WHAT IT READS IS OF BULK AT MOST 1048576: true; the input reads as it did. -/
def linkAnyBytesUptoRow : OpenClaim := { program := "ytdgalljalcediaa", sum := "8ff82a183fe91eb4edcabd8704ea7e53d44ce90470ecff489f93c710288ea30a", func := "gauntlet/gauntletlaw16.LinkAnyBytes", spec := "linkAnyBytes", unfollowed := true, recurses := true, apart := false, narrowed := true }
def LinkAnyBytesUptoSaid : Prop := linkAnyBytesUptoRow.holds Try.pinned (OpenSpec.upto linkAnyBytesSpec)

/-- 'gauntletlaw16.LinkIds', WHERE WHAT IT READS IS OF BULK AT MOST 1048576: true; the input reads as it did. -/
def linkIdsUptoRow : OpenClaim := { program := "ytdgalljalcediaa", sum := "8ff82a183fe91eb4edcabd8704ea7e53d44ce90470ecff489f93c710288ea30a", func := "gauntlet/gauntletlaw16.LinkIds", spec := "linkIds", unfollowed := true, recurses := true, apart := false, narrowed := true }
def LinkIdsUptoSaid : Prop := linkIdsUptoRow.holds Try.pinned (OpenSpec.upto linkIdsSpec)

/-- 'gauntletlaw16.LinkOrder', WHERE WHAT IT READS IS OF BULK AT MOST 1048576: true; the input reads as it did. -/
def linkOrderUptoRow : OpenClaim := { program := "ytdgalljalcediaa", sum := "8ff82a183fe91eb4edcabd8704ea7e53d44ce90470ecff489f93c710288ea30a", func := "gauntlet/gauntletlaw16.LinkOrder", spec := "linkOrder", unfollowed := true, recurses := true, apart := false, narrowed := true }
def LinkOrderUptoSaid : Prop := linkOrderUptoRow.holds Try.pinned (OpenSpec.upto linkOrderSpec)

/-- 'gauntletlaw16.LinkEnds', WHERE WHAT IT READS IS OF BULK AT MOST 1048576: true; the input reads as it did. -/
def linkEndsUptoRow : OpenClaim := { program := "ytdgalljalcediaa", sum := "8ff82a183fe91eb4edcabd8704ea7e53d44ce90470ecff489f93c710288ea30a", func := "gauntlet/gauntletlaw16.LinkEnds", spec := "linkEnds", unfollowed := true, recurses := true, apart := false, narrowed := true }
def LinkEndsUptoSaid : Prop := linkEndsUptoRow.holds Try.pinned (OpenSpec.upto linkEndsSpec)

/-- 'gauntletlaw16.LinkPlays', WHERE WHAT IT READS IS OF BULK AT MOST 1048576: true; the input reads as it did. -/
def linkPlaysUptoRow : OpenClaim := { program := "ytdgalljalcediaa", sum := "8ff82a183fe91eb4edcabd8704ea7e53d44ce90470ecff489f93c710288ea30a", func := "gauntlet/gauntletlaw16.LinkPlays", spec := "linkPlays", unfollowed := true, recurses := true, apart := false, narrowed := true }
def LinkPlaysUptoSaid : Prop := linkPlaysUptoRow.holds Try.pinned (OpenSpec.upto linkPlaysSpec)

/-- 'gauntletlaw16.LinkOfNothing', WHERE WHAT IT READS IS OF BULK AT MOST 1048576: true; the input reads as it did. -/
def linkOfNothingUptoRow : OpenClaim := { program := "ytdgalljalcediaa", sum := "8ff82a183fe91eb4edcabd8704ea7e53d44ce90470ecff489f93c710288ea30a", func := "gauntlet/gauntletlaw16.LinkOfNothing", spec := "linkOfNothing", unfollowed := true, recurses := true, apart := false, narrowed := true }
def LinkOfNothingUptoSaid : Prop := linkOfNothingUptoRow.holds Try.pinned (OpenSpec.upto linkOfNothingSpec)

/-- 'gauntletlaw16.LinkTicks', WHERE WHAT IT READS IS OF BULK AT MOST 1048576: true; the input reads as it did. -/
def linkTicksUptoRow : OpenClaim := { program := "ytdgalljalcediaa", sum := "8ff82a183fe91eb4edcabd8704ea7e53d44ce90470ecff489f93c710288ea30a", func := "gauntlet/gauntletlaw16.LinkTicks", spec := "linkTicks", unfollowed := true, recurses := true, apart := false, narrowed := true }
def LinkTicksUptoSaid : Prop := linkTicksUptoRow.holds Try.pinned (OpenSpec.upto linkTicksSpec)

end Rows
end Go.Proofs.Ytdgalljalcediaa
