/-
  inputs: the Queue's methods as contracts over one player's row.
-/
import Derived.Test.YtjdeeloemhjbhaaArgs
import Derived.Test.YtjdeeloemhjbhaaRows
import Derived.Test.YtjdeeloemhjbhaaInpP
import Derived.Deep.QuietTactic
import Derived.BigQuiet
import Derived.BigRegion
import Derived.Deep.RegionWith
import Derived.Deep.RegionLaw
namespace Go.Proofs.Ytjdeeloemhjbhaa
open Go.RowKit Go.Sep Go.Inp

def uv (xs : List Int) : List Value := xs.map (Value.int .u16)
def kv (xs : List Bool) : List Value := xs.map Value.bool

/-- the row of one player, at a place of the block p: what stands there, and the two lists -/
def rowCells (gb hb n f : Nat) : List Value := [.slice (some ⟨gb, 0, none⟩) n n, .slice (some ⟨hb, 0, none⟩) n n, .int .i64 f]

theorem row_cells {W0 w : World} {L : List Asn} {p gb hb n f o : Nat} {pre post : List Value} {e : TypeId} (S : Sat W0 w (blk p (pre ++ rowCells gb hb n f ++ post) e :: L)) (ho : pre.length = o) :
    w.cell? ⟨p, o, none⟩ = some (.slice (some ⟨gb, 0, none⟩) n n) ∧ w.cell? ⟨p, o + 1, none⟩ = some (.slice (some ⟨hb, 0, none⟩) n n) ∧ w.cell? ⟨p, o + 2, none⟩ = some (.int .i64 f) ∧ ∀ k, w.frozen? ⟨p, k, none⟩ = false := by
  subst ho
  refine ⟨?_, ?_, ?_, fun k => S.frozen 0 rfl k⟩
  all_goals
    rw [S.cell 0 rfl, List.append_assoc, List.getElem?_append_right (by omega)]
    simp [rowCells]

/-- the call of 'of' comes to the row at that place -/
def OfIs (p o : Nat) (j : Int) : Prop := ∀ w, Calls Try.prog 30 #[.pointer (some ⟨p, 0, none⟩), .int .i64 j] w fun e w' => e = .returned (.pointer (some ⟨p, o, none⟩)) ∧ w = w'

set_option maxRecDepth 100000 in
theorem of_0 (p : Nat) : OfIs p 0 0 := by
  intro w
  go_enter Try.func30, Try.ntmps30
  go_wp2_with fail
  go_ret
  exact ⟨rfl, rfl⟩
set_option maxRecDepth 100000 in
theorem of_1 (p : Nat) : OfIs p 3 1 := by
  intro w
  go_enter Try.func30, Try.ntmps30
  go_wp2_with fail
  go_ret
  exact ⟨rfl, rfl⟩
set_option maxRecDepth 100000 in
theorem of_out (p : Nat) {j : Int} (h : j < 0 ∨ 1 < j) (w : World) : Calls Try.prog 30 #[.pointer (some ⟨p, 0, none⟩), .int .i64 j] w fun e w' => e = .returned (.pointer none) ∧ w = w' := by
  rcases h with h | h
  all_goals
    go_enter Try.func30, Try.ntmps30
    go_wp2_with fail
    go_ret
    exact ⟨rfl, rfl⟩
set_option maxRecDepth 100000 in
theorem of_nil (j : Int) (w : World) : Calls Try.prog 30 #[.pointer none, .int .i64 j] w fun e w' => e = .returned (.pointer none) ∧ w = w' := by
  go_enter Try.func30, Try.ntmps30
  go_wp2_with fail
  go_ret
  exact ⟨rfl, rfl⟩

/-- the assertions that tell one row of a Queue at place o of the block p -/
def RowL (p gb hb n f : Nat) (pre post : List Value) (r : PRow) (L : List Asn) : List Asn :=
  blk p (pre ++ rowCells gb hb n f ++ post) 73 :: blk gb (uv r.ins) 22 :: blk hb (kv r.kn) 4 :: L

theorem kn_cell {W0 w : World} {L : List Asn} {p gb hb n f : Nat} {pre post : List Value} {r : PRow} (S : Sat W0 w (RowL p gb hb n f pre post r L)) {k : Nat} (hk : k < r.kn.length) : w.cell? ⟨hb, k, none⟩ = some (.bool (isKn r k)) := by
  rw [Sat.cell S 2 rfl]; unfold isKn; simp [kv, List.getElem?_eq_getElem hk]
theorem in_cell {W0 w : World} {L : List Asn} {p gb hb n f : Nat} {pre post : List Value} {r : PRow} (S : Sat W0 w (RowL p gb hb n f pre post r L)) {k : Nat} (hk : k < r.ins.length) : w.cell? ⟨gb, k, none⟩ = some (.int .u16 (inAt r k)) := by
  rw [Sat.cell S 1 rfl]; unfold inAt; simp [uv, List.getElem?_eq_getElem hk]

set_option maxRecDepth 100000 in
theorem qget_row {W0 w : World} {L : List Asn} {p gb hb f o n : Nat} {pre post : List Value} {r : PRow} {j : Int}
    (S : Sat W0 w (RowL p gb hb n f pre post r L)) (ho : pre.length = o) (hok : r.ok n) (hn : n ≤ 600) (hof : OfIs p o j) (fr : Int) :
    Calls Try.prog 57 #[.pointer (some ⟨p, 0, none⟩), .int .i64 j, .int .i64 fr] w fun e w' => e = .returned (.tuple #[.int .u16 (getR n r fr).1, .bool (getR n r fr).2]) ∧ w = w' := by
  obtain ⟨c0, c1, c2, fz⟩ := row_cells S ho
  by_cases hneg : fr < 0
  · have HG : Hid (getR n r fr = (0, false)) := by show _ = _; unfold getR; rw [if_pos hneg]
    go_enter Try.func57, Try.ntmps57
    go_wp2_with (go_at_call 30; refine (hof _).mono ?_; rintro e w1 ⟨rfl, rfl⟩)
    go_ret2
    exact ⟨by rw [HG.out]; rfl, rfl⟩
  · obtain ⟨q, rfl⟩ := Int.eq_ofNat_of_zero_le (show 0 ≤ fr by omega)
    by_cases hk : q < n ∧ isKn r q = true
    · have HG : Hid (getR n r q = (inAt r q, true)) := by show _ = _; unfold getR; rw [if_neg hneg, if_pos ⟨by omega, hk.2⟩]; rfl
      have ck := kn_cell S (k := q) (by rw [hok.2]; exact hk.1)
      rw [hk.2] at ck
      have ci := in_cell S (k := q) (by rw [hok.1]; exact hk.1)
      have hq := hk.1
      clear hk
      go_enter Try.func57, Try.ntmps57
      go_wp2_with (go_at_call 30; refine (hof _).mono ?_; rintro e w1 ⟨rfl, rfl⟩)
      go_ret2
      exact ⟨by rw [HG.out]; rfl, rfl⟩
    · have HG : Hid (getR n r q = (guess r (min q n), false)) := by show _ = _; unfold getR; rw [if_neg hneg, if_neg (fun h => hk ⟨by omega, h.2⟩)]; rfl
      have hun : n ≤ q ∨ (q < n ∧ w.cell? ⟨hb, q, none⟩ = some (.bool false)) := by
        by_cases hq : q < n
        · refine .inr ⟨hq, ?_⟩
          rw [kn_cell S (by rw [hok.2]; exact hq), show isKn r q = false by cases hh : isKn r q; rfl; exact absurd ⟨hq, hh⟩ hk]
        · exact .inl (by omega)
      clear hk
      have hmin : (n ≤ q → min q n = n) ∧ (q < n → min q n = q) := ⟨fun _ => by omega, fun _ => by omega⟩
      rcases hun with hq | ⟨hq, ck⟩
      all_goals
        first | (rw [hmin.1 hq] at HG; have hmi : min (q : Int) (n : Int) = (n : Int) := by omega) | (rw [hmin.2 hq] at HG; have hmi : min (q : Int) (n : Int) = (q : Int) := by omega)
        clear hmin
        go_enter Try.func57, Try.ntmps57
        go_wp2_with (go_at_call 30; refine (hof _).mono ?_; rintro e w1 ⟨rfl, rfl⟩)
        all_goals
          go_loop [9] (fun i => ∃ z : Int, ∃ k : Nat, i = .int .i64 z ∧ Hid (z = k - 1) ∧ k ≤ n ∧ Hid (getR n r q = (guess r k, false))) (fun i => (intOf i + 1).toNat)
          case atStart => first | exact ⟨_, _, rfl, rfl, by omega, HG⟩ | exact ⟨_, q, rfl, rfl, by omega, (show q = n by omega) ▸ HG⟩
          case round =>
            obtain ⟨z, k, rfl, hz, hkn, HK⟩ := hrel
            cases k with
            | zero =>
              obtain rfl : z = -1 := by have := hz.out; omega
              go_wp2
              go_ret2
              exact ⟨by rw [HK.out]; rfl, rfl⟩
            | succ k =>
              obtain rfl : z = (k : Int) := by have := hz.out; omega
              have ck2 := kn_cell S (k := k) (by rw [hok.2]; omega)
              have ci2 := in_cell S (k := k) (by rw [hok.1]; omega)
              by_cases hkk : isKn r k = true
              · rw [hkk] at ck2
                have HK2 : Hid (getR n r q = (inAt r k, false)) := by show _ = _; rw [HK.out, guess, if_pos hkk]
                clear hkk
                go_wp2
                go_ret2
                exact ⟨by rw [HK2.out]; rfl, rfl⟩
              · have hkf : isKn r k = false := by cases hh : isKn r k; rfl; exact absurd hh hkk
                rw [hkf] at ck2
                have HK2 : Hid (getR n r q = (guess r k, false)) := by show _ = _; rw [HK.out, guess, if_neg hkk]
                clear hkk hkf
                go_wp2
                go_round
                case rel => exact ⟨_, k, rfl, rfl, by omega, HK2⟩
                case measure => simp [intOf]
end Go.Proofs.Ytjdeeloemhjbhaa
