/-
  link, plain: rows that go out as far as the window lets them, owned to one by one.
-/
import Derived.Test.YtdgalljalcediaaLiS
namespace Go.Oct
open Go.RowKit

def rsT (n : Nat) : List (List Int) := (List.range n).map fun i : Nat => [(i : Int)]
theorem rsT_length (n : Nat) : (rsT n).length = n := by simp [rsT]
theorem rsT_succ (n : Nat) : rsT (n + 1) = rsT n ++ [[(n : Int)]] := by unfold rsT; rw [List.range_succ, List.map_append]; rfl
theorem rsT_at {n i : Nat} (h : i < n) : (rsT n)[i]? = some [(i : Int)] := by unfold rsT; simp [h]
theorem rsT_row {n : Nat} (hn : n ≤ 256) : ∀ r ∈ rsT n, Bytes r ∧ r.length ≤ 4096 := by
  intro r hr
  obtain ⟨i, hi, rfl⟩ := List.mem_map.1 hr
  have := List.mem_range.1 hi
  refine ⟨fun x hx => ?_, by simp⟩
  rw [List.mem_singleton.1 hx]
  omega
def wPk (i : Nat) : List Int := packP 4 ((i : Int) + 1) 0 [(i : Int)]
def wOut (a m : Nat) : List (List Int) := (List.range m).map fun i : Nat => wPk (a + i)
theorem wOut_length (a m : Nat) : (wOut a m).length = m := by simp [wOut]
theorem wOut_snoc (a m : Nat) : wOut a (m + 1) = wOut a m ++ [wPk (a + m)] := by unfold wOut; rw [List.range_succ, List.map_append]; rfl
theorem wOut_cons (a m : Nat) : wOut a (m + 1) = wPk a :: wOut (a + 1) m := by
  unfold wOut
  rw [List.range_succ_eq_map, List.map_cons, List.map_map]
  show wPk (a + 0) :: _ = _
  rw [Nat.add_zero]
  congr 1
  apply List.map_congr_left
  intro i _
  show wPk (a + (i + 1)) = wPk (a + 1 + i)
  congr 1
  omega
def AW (n j : Nat) : LS := ⟨4, (rsT n).drop j, 1 + (j : Int), min (n - j) 16, 0, 0, ((min n (16 + j) : Nat) : Int), 0⟩
def BW (i : Nat) : LS := ⟨4, [], 1, 0, (i : Int), 0, (i : Int), 0⟩
theorem AW_zero (n : Nat) : AW n 0 = PS 4 (rsT n) := by unfold AW PS; simp [rsT_length]
theorem BW_zero : BW 0 = LS.new 4 := rfl
theorem AW_rows (n j : Nat) : (AW n j).rows.length = n - j := by show ((rsT n).drop j).length = _; rw [List.length_drop, rsT_length]
theorem AW_ok {n j : Nat} (hn : n ≤ 60) (hj : j ≤ n) : (AW n j).Ok 1000 := by
  refine ⟨by show I64 4; unfold I64; omega, by show 1 ≤ 1 + (j : Int); omega, by show 1 + (j : Int) ≤ 1000; omega, ?_, by show min (n - j) 16 ≤ 16; omega, by show (0 : Int) ≤ 0; omega, by show (0 : Int) ≤ 1000; omega, by show (0 : Int) ≤ 0; omega, by show (0 : Int) < 5; omega,
    by show (0 : Int) ≤ ((min n (16 + j) : Nat) : Int); omega, by show ((min n (16 + j) : Nat) : Int) ≤ 1000; omega, by show (0 : Int) ≤ 0; omega, by show (0 : Int) ≤ 1000; omega, by rw [AW_rows]; omega, ?_⟩
  · rw [AW_rows]; show min (n - j) 16 ≤ n - j; omega
  · intro r hr; exact rsT_row (by omega) r (List.mem_of_mem_drop hr)
theorem BW_ok {i : Nat} (hi : i ≤ 60) : (BW i).Ok 1000 := by
  refine ⟨by show I64 4; unfold I64; omega, by show (1 : Int) ≤ 1; omega, by show (1 : Int) ≤ 1000; omega, by show 0 ≤ 0; omega, by show 0 ≤ 16; omega, by show (0 : Int) ≤ i; omega, by show (i : Int) ≤ 1000; omega, by show (0 : Int) ≤ 0; omega, by show (0 : Int) < 5; omega, by show (0 : Int) ≤ i; omega, by show (i : Int) ≤ 1000; omega, by show (0 : Int) ≤ 0; omega, by show (0 : Int) ≤ 1000; omega, by show 0 ≤ 1000; omega, ?_⟩
  intro r hr; simp [BW] at hr
theorem W_ends {n j i : Nat} (hn : n ≤ 60) (hj : j ≤ n) (h1 : j ≤ i) (h2 : i ≤ j + min (n - j) 16) : Ends2 4 1000 (rsT n) [] (AW n j) (BW i) n 0 [] ((rsT n).take i) := by
  refine ⟨AW_ok hn hj, BW_ok (by omega), rfl, rfl, ⟨by rw [rsT_length]; omega, ?_, ?_, ?_, ?_, ?_, ?_, ?_⟩, ⟨by simp, ?_, ?_, ?_, ?_, ?_, ?_, by simp⟩, ?_, by simp⟩
  · show 1 + (j : Int) ≤ n + 1; omega
  · show 1 ≤ 1 + (j : Int); omega
  · show (rsT n).drop j = ((rsT n).take n).drop (1 + (j : Int) - 1).toNat
    rw [List.take_of_length_le (by rw [rsT_length]; omega)]
    congr 1
    omega
  · rw [AW_rows]; show min (n - j) 16 ≤ n - j; omega
  · show 1 + (j : Int) - 1 ≤ (i : Int); omega
  · show (i : Int) ≤ 1 + (j : Int) + ((min (n - j) 16 : Nat) : Int) - 1; omega
  · show (rsT n).take i = (rsT n).take ((i : Int)).toNat; congr 1
  · show (1 : Int) ≤ 0 + 1; omega
  · show (1 : Int) ≤ 1; omega
  · rfl
  · show 0 ≤ 0; omega
  · show (1 : Int) - 1 ≤ 0; omega
  · show (0 : Int) ≤ 1 + ((0 : Nat) : Int) - 1; omega
  · intro r hr; exact rsT_row (by omega) r (List.mem_of_mem_take hr)
theorem hear_bW {n j : Nat} (hn : n ≤ 60) (hj : j < n) : hearP (BW j) (wPk j) = ([[(j : Int)]], [packP 4 0 ((j : Int) + 1) []], BW (j + 1)) := by
  unfold wPk
  have hu : (1 : Int) ≤ ((min (n - j) 16 : Nat) : Int) := by omega
  rw [hear_cases (W_ends (j := j) (i := j) hn (by omega) (Nat.le_refl _) (by omega)) (by omega) (by omega) (by show (j : Int) + 1 ≤ 1 + (j : Int) + ((min (n - j) 16 : Nat) : Int) - 1; omega) (fun h => absurd h (by omega)) (fun _ => by rw [show ((j : Int) + 1 - 1).toNat = j by omega]; exact rsT_at hj) (by omega) (by show (0 : Int) ≤ 0; omega)]
  have hg : gotP (BW j) ⟨4, (j : Int) + 1, 0, [(j : Int)], 0⟩ = { BW j with came := (j : Int) + 1 } := by
    unfold gotP
    dsimp only
    have h0 : ackP 0 (BW j).under (BW j) = BW j := rfl
    rw [h0, if_neg (show ¬ (j : Int) + 1 = 0 by omega), if_pos (show (j : Int) + 1 = (BW j).came + 1 from rfl)]
    rfl
  have hnr : newRows (BW j) ⟨4, (j : Int) + 1, 0, [(j : Int)], 0⟩ = [[(j : Int)]] := by
    rw [newRows_eq]
    exact if_pos ⟨(show ¬ (j : Int) + 1 = 0 by omega), rfl⟩
  have hf : fillP { BW j with came := (j : Int) + 1 } = ([], { BW j with came := (j : Int) + 1 }) := by
    have hroom : LS.room { BW j with came := (j : Int) + 1 } = 0 := rfl
    unfold fillP
    rw [hroom]
    refine Prod.ext rfl ?_
    unfold LS.went BW
    simp
  rw [hg, hnr, hf, if_pos ⟨(show 0 < (j : Int) + 1 by omega), rfl⟩]
  rfl
theorem hear_aW {n j : Nat} (hn : n ≤ 60) (hj : j < n) : hearP (AW n j) (packP 4 0 ((j : Int) + 1) []) = ([], if j + 16 < n then [wPk (j + 16)] else [], AW n (j + 1)) := by
  have hE := (W_ends (n := n) (j := j) (i := j + 1) hn (by omega) (by omega) (by omega)).swap
  rw [hear_cases hE (by omega) (by omega) (by show (0 : Int) ≤ 1 + ((0 : Nat) : Int) - 1; omega) (fun _ => rfl) (fun h => absurd h (by omega)) (by omega) (by show (j : Int) + 1 ≤ ((j + 1 : Nat) : Int); omega)]
  rw [if_neg (fun x => by omega)]
  have hg : gotP (AW n j) ⟨4, 0, (j : Int) + 1, [], 0⟩ = ⟨4, (rsT n).drop (j + 1), 1 + (j : Int) + 1, min (n - j) 16 - 1, 0, 0, ((min n (16 + j) : Nat) : Int), 0⟩ := by
    unfold gotP
    dsimp only
    rw [if_pos rfl]
    have e1 : (AW n j).under = (min (n - j) 16 - 1) + 1 := by show min (n - j) 16 = _; omega
    rw [e1]
    unfold ackP
    rw [if_pos (show (AW n j).first ≤ (j : Int) + 1 by show 1 + (j : Int) ≤ _; omega)]
    have e2 : ∀ (u : Nat) (s : LS), s.under = u → ¬ s.first ≤ (j : Int) + 1 → ackP ((j : Int) + 1) u s = s := by
      intro u s hs h
      cases u with
      | zero => rfl
      | succ u => exact if_neg h
    rw [e2 (min (n - j) 16 - 1) { AW n j with rows := (AW n j).rows.tail, first := (AW n j).first + 1, under := min (n - j) 16 - 1 } rfl (by show ¬ 1 + (j : Int) + 1 ≤ (j : Int) + 1; omega)]
    show LS.mk 4 (((rsT n).drop j).tail) (1 + (j : Int) + 1) _ _ _ _ _ = _
    rw [List.tail_drop]
    rfl
  have hnr : newRows (AW n j) ⟨4, 0, (j : Int) + 1, [], 0⟩ = [] := by
    rw [newRows_eq]
    exact if_neg (fun x => x.1 rfl)
  rw [hg, hnr]
  have hlen : ((rsT n).drop (j + 1)).length = n - (j + 1) := by rw [List.length_drop, rsT_length]
  have hroom : LS.room ⟨4, (rsT n).drop (j + 1), 1 + (j : Int) + 1, min (n - j) 16 - 1, 0, 0, ((min n (16 + j) : Nat) : Int), 0⟩ = if j + 16 < n then 1 else 0 := by
    show min ((rsT n).drop (j + 1)).length 16 - (min (n - j) 16 - 1) = _
    rw [hlen]
    split <;> omega
  unfold fillP
  dsimp only
  rw [hroom]
  by_cases h16 : j + 16 < n
  · simp only [if_pos h16]
    refine Prod.ext rfl (Prod.ext ?_ ?_)
    · show outP _ 1 = _
      unfold outP
      simp only [List.range_one, List.map_cons, List.map_nil]
      have e3 : ((rsT n).drop (j + 1))[min (n - j) 16 - 1 + 0]?.getD [] = [((j + 16 : Nat) : Int)] := by
        rw [List.getElem?_drop, show j + 1 + (min (n - j) 16 - 1 + 0) = j + 16 by omega, rsT_at h16]
        rfl
      rw [e3]
      unfold wPk
      congr 2
      omega
    · show LS.went _ 1 = _
      unfold LS.went AW
      simp only [LS.mk.injEq, true_and, and_true]
      refine ⟨by omega, by omega, by simp, by omega⟩
  · simp only [if_neg h16]
    refine Prod.ext rfl (Prod.ext rfl ?_)
    show LS.went _ 0 = _
    unfold LS.went AW
    simp only [LS.mk.injEq, true_and, and_true]
    refine ⟨by omega, by omega, by simp, by omega⟩
end Go.Oct
