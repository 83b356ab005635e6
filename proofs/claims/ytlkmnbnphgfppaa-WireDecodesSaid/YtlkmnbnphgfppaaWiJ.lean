/-
  wire's laws: what their walks have in common.
-/
import Derived.Test.YtlkmnbnphgfppaaWiK
import Derived.Test.YtlkmnbnphgfppaaWiM
import Derived.Test.YtlkmnbnphgfppaaWiI
import Derived.Test.YtlkmnbnphgfppaaWi2
import Derived.Test.YtlkmnbnphgfppaaWi5
namespace Go.Oct
open Go.RowKit
theorem say_bytes {mark kind least top seq : Int} {nums data : List Int} {most : Nat} (hm : 0 ≤ mark ∧ mark < 256) (h0 : 0 ≤ least) (h1 : top < 256) (hn : I64s nums) (hd : Bytes data) (hmo : most ≤ 1000000) : Bytes (sayP mark kind least top seq nums data most).1 := by
  by_cases h : (sayP mark kind least top seq nums data most).2 = 0
  · obtain ⟨h2, h3, h4⟩ := say_ok h
    obtain ⟨a1, a2, a3, a4, a5⟩ := may_ok h2
    rw [h4]
    exact recP_bytes (bodyB_bytes hm (by omega) (by unfold I64; omega) hn hd (by omega) (by omega)) (by omega)
  · have : (sayP mark kind least top seq nums data most).1 = [] := by
      unfold sayP encF at h ⊢
      split
      · rfl
      · rename_i hx
        rw [if_neg hx] at h
        split
        · rfl
        · rename_i hy
          rw [if_neg hy] at h
          exact absurd rfl h
    rw [this]
    intro x hx
    simp at hx
end Go.Oct
namespace Go.Proofs.Ytlkmnbnphgfppaa
open Go.RowKit Go.Sep Go.Oct
/-- a struct loaded whole under a guard that holds -/
theorem wpList_load_guard {P : Program} {w : World} {ops : Array Oper} {rest : List Oper} {o : Oper} {a : Act} {Q : Exit → Act → World → Prop} (hw : Region.wanted o (yielded ops a.tmps) = true) (ty : TypeId) (x : Operand) (ho : o.op = .load ty x)
    {g off n : Nat} {cs : List Value} (hx : a.eval x = .pointer (some ⟨g, off, none⟩)) (hc : ∀ j, j < n → w.cell? ⟨g, off + j, none⟩ = cs[j]?) (hn : cs.length = n) {d : TypeDesc}
    (hu : P.underlying ty = some d) (hd : aggKind d = true) (hi : (P.info? ty).map (·.size) = some n)
    (h : wpList P ops Q rest (a.put o.dst (.agg cs.toArray)) w) : wpList P ops Q (o :: rest) a w := by
  simp only [wpList, hw, if_true]
  exact Or.inl (wp_load_part ty x ho hx hc hn hu hd hi h)
end Go.Proofs.Ytlkmnbnphgfppaa
