/-
  octet: two digests are one; a field laid by a literal.
-/
import Derived.Test.YtbkieoblhacngaaOct5
import Derived.ChangeKeysEq
import Derived.Laws.StructEq
namespace Go.Proofs.Ytbkieoblhacngaa
open Go.RowKit Go.Sep Go.Oct

theorem eqItems_same {P : Program} (w : World) (d : Nat) {e : TypeId} (bs : List Int) (he : P.underlying e = some (.int .u8)) : ∀ is : List Nat, (∀ i ∈ is, i < bs.length) →
    (Op.eqItems (d + 1) e 1 (bv bs).toArray (bv bs).toArray is).run P w = .ok true w
  | [], _ => by simp [Op.eqItems]
  | i :: is, h => by
    have hi := h i (by simp)
    have px : (part e (bv bs).toArray (i * 1)).run P w = .ok (.int .u8 bs[i]) w := by
      simp [part, isAgg, run_underlying he, bv, List.getElem?_eq_getElem hi]
    have pe : (Op.equalIn (d + 1) e (.int .u8 bs[i]) (.int .u8 bs[i])).run P w = .ok true w := by
      rw [run_equalIn_int w d e .u8 .u8 _ _ he, beq_self_eq_true]
    have ih := eqItems_same w d bs he is (fun j hj => h j (by simp [hj]))
    simp only [Op.eqItems, Sem.run_bind, px, pe, Result.andThen_ok]
    simpa using ih

theorem eql_hash (w : World) (bs : List Int) (hl : bs.length = 32) : (binOp .eql 42 (.agg (bv bs).toArray) (.agg (bv bs).toArray)).run Try.prog w = .ok (.bool true) w := by
  obtain ⟨iu, hi, _, _, _⟩ := info_parts Try.infoB
  have hc : Try.prog.cellsOf 5 = 1 := by kernel_rfl
  rw [run_eql_struct, run_equalIn_array w 9999 _ _ Try.underlying42 hi, hc, eqItems_same w 9998 bs Try.underlying5 _ (fun i h => by rw [hl]; exact List.mem_range.1 h)]
  rfl
theorem Try.noGuardH : Try.prog.eqGuardType Try.prog.depth 42 = false := by kernel_rfl
theorem eql_zero (w : World) : (binOp .eql 42 (.agg (bv zeros32).toArray) (.agg #[.int .u8 0, .int .u8 0, .int .u8 0, .int .u8 0, .int .u8 0, .int .u8 0, .int .u8 0, .int .u8 0, .int .u8 0, .int .u8 0, .int .u8 0, .int .u8 0, .int .u8 0, .int .u8 0, .int .u8 0, .int .u8 0, .int .u8 0, .int .u8 0, .int .u8 0, .int .u8 0, .int .u8 0, .int .u8 0, .int .u8 0, .int .u8 0, .int .u8 0, .int .u8 0, .int .u8 0, .int .u8 0, .int .u8 0, .int .u8 0, .int .u8 0, .int .u8 0])).run Try.prog w = .ok (.bool true) w := by
  have h := eql_hash w zeros32 (by simp [zeros32])
  have e : (bv zeros32).toArray = #[.int .u8 0, .int .u8 0, .int .u8 0, .int .u8 0, .int .u8 0, .int .u8 0, .int .u8 0, .int .u8 0, .int .u8 0, .int .u8 0, .int .u8 0, .int .u8 0, .int .u8 0, .int .u8 0, .int .u8 0, .int .u8 0, .int .u8 0, .int .u8 0, .int .u8 0, .int .u8 0, .int .u8 0, .int .u8 0, .int .u8 0, .int .u8 0, .int .u8 0, .int .u8 0, .int .u8 0, .int .u8 0, .int .u8 0, .int .u8 0, .int .u8 0, .int .u8 0] := by rw [zeros32_bv]
  conv at h => lhs; arg 2; arg 4; rw [e]
  exact h

theorem fold_from : ∀ (cs : List Value) (k : Nat) (z : Array Value), z.size = k + cs.length → (List.foldl (fun cs x => cs.setIfInBounds x.2 x.1) z (cs.zipIdx k)).toList = z.toList.take k ++ cs
  | [], k, z, h => by
    simp only [List.zipIdx_nil, List.foldl_nil, List.append_nil]
    rw [List.take_of_length_le (by simpa using Nat.le_of_eq h)]
  | c :: r, k, z, h => by
    simp only [List.length_cons] at h
    rw [List.zipIdx_cons, List.foldl_cons, fold_from r (k + 1) _ (by simp; omega)]
    simp only [Array.toList_setIfInBounds]
    have hk : k < z.toList.length := by simp; omega
    have hkz : k < z.size := by omega
    rw [List.take_add_one, List.take_set_of_le (Nat.le_refl k)]
    simp only [List.append_assoc, List.append_cancel_left_eq, List.getElem?_set, if_pos hk, if_true]
    rfl
theorem fold_set (cs : List Value) (z : Array Value) (h : z.size = cs.length) : List.foldl (fun cs x => cs.setIfInBounds x.2 x.1) z cs.zipIdx = cs.toArray := by
  apply Array.toList_inj.1
  rw [fold_from cs 0 z (by omega)]
  rfl
end Go.Proofs.Ytbkieoblhacngaa
