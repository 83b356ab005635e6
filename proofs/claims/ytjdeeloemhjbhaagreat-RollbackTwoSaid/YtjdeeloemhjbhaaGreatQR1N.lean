/-
  Chapter 1's document: its Reader's numbers.
-/
import Derived.StillTailTactics
import Derived.Deep.DeepCutAuto
import Derived.Deep.CutBlock
import Derived.Test.YtjdeeloemhjbhaaGreatQR1R

namespace Go.Proofs.YtjdeeloemhjbhaaGreat
open Go.RowKit Go.Sep Go.Oct

theorem one_had {bs : List Int} {e0 : Int} (h : e0 ≠ 0) : tk 1 bs e0 = ([], bs, e0) := tk_had h
theorem one_nil : tk 1 [] 0 = ([], [], 2) := tk_short (by decide)
theorem one_cons (c : Int) (r : List Int) : tk 1 (c :: r) 0 = ([c], r, 0) := by rw [tk_enough (by simp)]; rfl
end Go.Proofs.YtjdeeloemhjbhaaGreat
