/-
  Chapter 10's document: an instruction done: what is said of it.
-/
import Derived.Test.YtpcffejanlokiaaVmW1
import Derived.Test.YtpcffejanlokiaaVmC
import Derived.Deep.RegionWith
import Derived.StillTailTactics
import Derived.Deep.DeepCutAuto
import Derived.Deep.CutBlock
namespace Go.Proofs.Ytpcffejanlokiaa
open Go.RowKit Go.Sep Go.Vm
set_option linter.unusedSimpArgs false

def DoesPost (W0 : World) (L : List Asn) (p : Nat) (r : Bool × RM) (e : Ending) (w' : World) : Prop := e = .returned (.bool r.1) ∧ Sat W0 w' (Rc p r.2 :: L)
structure RM.Ok (m : RM) : Prop where
  len : m.s.cells.length = 16
  st : ∀ c ∈ m.st, -2147483648 ≤ c ∧ c ≤ 2147483647
  i0 : 0 ≤ m.i0 ∧ m.i0 < 65536
  i1 : 0 ≤ m.i1 ∧ m.i1 < 65536
  seed : 0 ≤ m.s.seed ∧ m.s.seed < 4294967296
  frame : 0 ≤ m.s.frame ∧ m.s.frame ≤ 600
  stl : m.st.length ≤ 32
theorem and_u32_low {x : Int} (h0 : 0 ≤ x) (h1 : x < 4294967296) : bits .and .u32 x 65535 = x % 65536 := by
  rw [u32_and _ _ h0 h1 (by omega) (by omega)]
  obtain ⟨n, rfl⟩ := Int.eq_ofNat_of_zero_le h0
  rw [Int.toNat_natCast, show (65535 : Int).toNat = 2 ^ 16 - 1 from rfl, Nat.and_two_pow_sub_one_eq_mod]
  simp

theorem actP_len {op arg : Int} {m : RM} (h : m.s.cells.length = 16) : (actP op arg m).s.cells.length = 16 := by
  have hp : ∀ m : RM, m.s.cells.length = 16 → m.pop.2.s.cells.length = 16 := by
    intro m h; unfold RM.pop; split <;> exact h
  have h1 := hp m h
  have h2 := hp m.pop.2 h1
  unfold actP
  by_cases e0 : op = 1
  · rw [if_pos e0]
    exact rpush_len h _
  rw [if_neg e0]
  by_cases e1 : op = 2
  · rw [if_pos e1]
    exact rpush_len h _
  rw [if_neg e1]
  by_cases e2 : op = 3
  · rw [if_pos e2]
    show (m.pop.2.s.cells.set _ _).length = 16
    rw [List.length_set]; exact h1
  rw [if_neg e2]
  by_cases e3 : op ≤ 11
  · rw [if_pos e3]
    exact rpush_len h2 _
  rw [if_neg e3]
  by_cases e4 : op = 12
  · rw [if_pos e4]
    exact rpush_len h1 _
  rw [if_neg e4]
  by_cases e5 : op = 13
  · rw [if_pos e5]
    exact rpush_len (rpush_len h1 _) _
  rw [if_neg e5]
  by_cases e6 : op = 14
  · rw [if_pos e6]
    exact rpush_len (rpush_len h2 _) _
  rw [if_neg e6]
  by_cases e7 : op = 15
  · rw [if_pos e7]
    exact h1
  rw [if_neg e7]
  by_cases e8 : op = 16
  · rw [if_pos e8]
    exact rpush_len h _
  rw [if_neg e8]
  by_cases e9 : op = 17
  · rw [if_pos e9]
    exact rpush_len h _
  rw [if_neg e9]
  by_cases e10 : op = 18
  · rw [if_pos e10]
    exact h
  rw [if_neg e10]
  by_cases e11 : op = 19
  · rw [if_pos e11]
    show (if m.pop.1 = 0 then ({ m.pop.2 with pc := arg } : RM) else m.pop.2).s.cells.length = 16
    by_cases hz : m.pop.1 = 0
    · rw [if_pos hz]; exact h1
    · rw [if_neg hz]; exact h1
  rw [if_neg e11]
  exact rpush_len (m := { m with s := { m.s with seed := nextSeed m.s.seed } }) h _

end Go.Proofs.Ytpcffejanlokiaa
