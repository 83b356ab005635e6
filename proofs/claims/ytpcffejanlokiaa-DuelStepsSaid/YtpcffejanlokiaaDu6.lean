/-
  duel: heavy; rows of pairs.
-/
import Derived.Test.YtpcffejanlokiaaDu5
namespace Go.Proofs.Ytpcffejanlokiaa
open Go.RowKit Go.Sep Go.Vm
set_option linter.unusedSimpArgs false

theorem pairsv_append (a b : List (Int × Int)) : pairsv (a ++ b) = pairsv a ++ pairsv b := by simp [pairsv]
theorem pairsv_length : ∀ l : List (Int × Int), (pairsv l).length = l.length * 2
  | [] => rfl
  | x :: r => by
    have := pairsv_length r
    rw [show pairsv (x :: r) = [Value.int .u16 x.1, .int .u16 x.2] ++ pairsv r from rfl, List.length_append, this, List.length_cons]
    simp; omega
theorem pairsv_one : ∀ l : List (Int × Int), ∀ u ∈ pairsv l, u.oneCell' = true := by
  intro l u hu
  unfold pairsv at hu
  obtain ⟨x, hx, hu⟩ := List.mem_flatten.1 hu
  obtain ⟨y, _, rfl⟩ := List.mem_map.1 hx
  simp at hu
  rcases hu with rfl | rfl <;> rfl
theorem playP_err {code : List (Int × Int)} {cap fuel seed : Int} {ps : List (Int × Int)} : (playP code cap fuel seed ps).2 = checkP code cap fuel := by
  unfold playP
  split
  · rename_i h; exact h.symm
  · rfl
theorem zero_ok : VS.zero.Ok := by
  refine ⟨rfl, ?_, ?_, ?_, ?_⟩ <;> decide +kernel
theorem playP_ok {code : List (Int × Int)} {cap fuel seed : Int} {ps : List (Int × Int)} (hsd : 0 ≤ seed ∧ seed < 4294967296) (hp : ∀ x ∈ ps, (0 ≤ x.1 ∧ x.1 < 65536) ∧ (0 ≤ x.2 ∧ x.2 < 65536)) : (playP code cap fuel seed ps).1.Ok := by
  unfold playP
  split
  · rename_i hk
    exact framesP_ok hk hsd hp _ (List.getLast_mem _)
  · exact zero_ok
theorem statesP_len {code : List (Int × Int)} {cap fuel seed : Int} {ps : List (Int × Int)} : (statesP code cap fuel seed ps).length ≤ ps.length + 1 := by
  unfold statesP
  split
  · have := framesP_len (code := code) (cap := cap) (fuel := fuel) ps (VS.start seed)
    simp; omega
  · simp
theorem Try.infoPair : (Try.prog.info? 39).map (fun i => (i.zero, i.size, i.bytes)) = some (some (.agg #[.int .u16 0, .int .u16 0]), 2, 4) := by kernel_rfl
theorem run_neq_pair (w : World) (x y : Int × Int) : (binOp .neq 39 (.agg #[.int .u16 x.1, .int .u16 x.2]) (.agg #[.int .u16 y.1, .int .u16 y.2])).run Try.prog w = .ok (.bool (!decide (x = y))) w := by
  obtain ⟨i, hi, _⟩ := info_parts (show (Try.prog.info? 37).map (fun i => (i.zero, i.size, i.bytes)) = some (some (.int .u16 0), 1, 2) by kernel_rfl)
  have h := run_equalIn_ints (P := Try.prog) w 9998 [x.1, x.2] [y.1, y.2] (t := 39) (k := .u16) Try.underlying39 hi Try.underlying37 (by kernel_rfl) rfl rfl
  rw [run_neq_struct]
  have e : (([x.1, x.2] : List Int).map (Value.int .u16)).toArray = #[.int .u16 x.1, .int .u16 x.2] := rfl
  have e2 : (([y.1, y.2] : List Int).map (Value.int .u16)).toArray = #[.int .u16 y.1, .int .u16 y.2] := rfl
  rw [e, e2] at h
  rw [h]
  obtain ⟨x1, x2⟩ := x
  obtain ⟨y1, y2⟩ := y
  by_cases h1 : x1 = y1 <;> by_cases h2 : x2 = y2 <;> simp [h1, h2]

set_option maxRecDepth 100000 in
theorem heavy_any {W0 w : World} {L : List Asn} (S : Sat W0 w L) (a b : Option Addr) (n c m d : Nat) (cap fuel : Int) (hn : n ≤ maxLen) (hm : m ≤ maxLen) {r : Bool} (hr : (decide (300 < n) || decide (100 < m)) = r) :
    Calls Try.prog 9 #[.agg #[.slice a n c, .int .i64 cap, .int .i64 fuel], .slice b m d] w fun e w' => e = .returned (.bool r) ∧ Sat W0 w' L := by
  have S1 := S.alloc [.slice a n c, .int .i64 cap, .int .i64 fuel] 24
  have g := gat S1
  have HR := Lib.hid hr
  clear hr
  by_cases h1 : (300 : Int) < (n : Int)
  · go_enter Try.func9, Try.ntmps9
    go_wp2_with fail
    go_ret
    refine ⟨congrArg (fun b => Ending.returned (Value.bool b)) ?_, S1.tail⟩
    rw [← HR.out, decide_eq_true (show 300 < n by omega)]
    rfl
  · have h2 : decide ((300 : Int) < (n : Int)) = false := decide_eq_false h1
    go_enter Try.func9, Try.ntmps9
    go_wp2_with fail
    go_ret
    refine ⟨congrArg (fun b => Ending.returned (Value.bool b)) ?_, S1.tail⟩
    rw [← HR.out, decide_eq_false (show ¬ 300 < n by omega), Bool.false_or]
    exact decide_eq_decide.2 (by omega)
end Go.Proofs.Ytpcffejanlokiaa
