/-
  '==' on arrays of whole numbers: whether the two lists are one.
-/
import Derived.WalkKit
import Derived.ChangeKeysEq
import Derived.Laws.StructEq

namespace Go.Sep
open Go.RowKit

theorem run_eqItems_ints {P : Program} (w : World) (d : Nat) {e : TypeId} {k : IntKind} (xs ys : List Int) (he : P.underlying e = some (.int k)) : ∀ is : List Nat, (∀ i ∈ is, i < xs.length ∧ i < ys.length) →
    (Op.eqItems (d + 1) e 1 (xs.map (Value.int k)).toArray (ys.map (Value.int k)).toArray is).run P w = .ok (is.all fun i => decide (xs[i]? = ys[i]?)) w
  | [], _ => by simp [Op.eqItems]
  | i :: is, h => by
    obtain ⟨h1, h2⟩ := h i (by simp)
    have px : (part e (xs.map (Value.int k)).toArray (i * 1)).run P w = .ok (.int k xs[i]) w := by
      simp [part, isAgg, run_underlying he, List.getElem?_eq_getElem h1]
    have py : (part e (ys.map (Value.int k)).toArray (i * 1)).run P w = .ok (.int k ys[i]) w := by
      simp [part, isAgg, run_underlying he, List.getElem?_eq_getElem h2]
    have pe : (Op.equalIn (d + 1) e (.int k xs[i]) (.int k ys[i])).run P w = .ok (xs[i] == ys[i]) w := run_equalIn_int w d e k k _ _ he
    have ih := run_eqItems_ints w d xs ys he is (fun j hj => h j (by simp [hj]))
    simp only [Op.eqItems, Sem.run_bind, px, py, pe, Result.andThen_ok, List.all_cons, List.getElem?_eq_getElem h1, List.getElem?_eq_getElem h2, Option.some.injEq]
    by_cases hxy : xs[i] = ys[i]
    · simpa [hxy] using ih
    · have : (xs[i] == ys[i]) = false := by simpa using hxy
      simp [this, hxy]

theorem all_same (n : Nat) (xs ys : List Int) (hx : xs.length = n) (hy : ys.length = n) : ((List.range n).all fun i => decide (xs[i]? = ys[i]?)) = decide (xs = ys) := by
  rw [Bool.eq_iff_iff, List.all_eq_true]
  simp only [List.mem_range, decide_eq_true_eq]
  constructor
  · intro h
    apply List.ext_getElem?
    intro i
    by_cases hi : i < n
    · exact h i hi
    · rw [List.getElem?_eq_none (by omega), List.getElem?_eq_none (by omega)]
  · rintro rfl i _; rfl

theorem run_equalIn_ints {P : Program} (w : World) (d : Nat) {t e : TypeId} {n : Nat} {i : TypeInfo} {k : IntKind} (xs ys : List Int) (hu : P.underlying t = some (.array n e)) (hi : P.info? e = some i) (he : P.underlying e = some (.int k)) (hc : P.cellsOf e = 1)
    (hx : xs.length = n) (hy : ys.length = n) :
    (Op.equalIn (d + 2) t (.agg (xs.map (Value.int k)).toArray) (.agg (ys.map (Value.int k)).toArray)).run P w = .ok (decide (xs = ys)) w := by
  rw [run_equalIn_array w (d + 1) _ _ hu hi, hc, run_eqItems_ints w d xs ys he _ (fun i h => by rw [hx, hy]; exact ⟨List.mem_range.1 h, List.mem_range.1 h⟩), all_same n xs ys hx hy]

theorem run_eql_ints {P : Program} (w : World) {t e : TypeId} {n : Nat} {i : TypeInfo} {k : IntKind} (xs ys : List Int) (hu : P.underlying t = some (.array n e)) (hi : P.info? e = some i) (he : P.underlying e = some (.int k)) (hc : P.cellsOf e = 1)
    (hx : xs.length = n) (hy : ys.length = n) :
    (binOp .eql t (.agg (xs.map (Value.int k)).toArray) (.agg (ys.map (Value.int k)).toArray)).run P w = .ok (.bool (decide (xs = ys))) w := by
  rw [run_eql_struct, run_equalIn_ints w 9998 xs ys hu hi he hc hx hy]
  rfl
end Go.Sep
