/-
  link, plain: how long what came, and what goes out, is.
-/
import Derived.Test.YtdgalljalcediaaLiN
namespace Go.Oct
open Go.RowKit

theorem hear_rows_len {s : LS} {b : List Int} : ∀ r ∈ (hearP s b).1, r.length ≤ 1000000000 := by
  by_cases hr : refused s b
  · rw [hearP_bad hr]; intro r hr; simp at hr
  · have hl : (lparts (openF b).1).row.length ≤ 4096 := by
      have : lokP b := by
        by_cases h : lokP b
        · exact h
        · exact absurd (Or.inl h) hr
      exact this.2.2.2.2
    have key : ∀ r ∈ newRows s (lparts (openF b).1), r.length ≤ 1000000000 := by
      intro r hm
      unfold newRows at hm
      split at hm
      · rw [List.mem_singleton.1 hm]; omega
      · simp at hm
    rw [hearP_ok hr]
    split
    · exact key
    · exact key
theorem small_len {l : List (List Int)} (h : Small l) : ∀ r ∈ l, r.length ≤ 1000000000 := fun r hr => by have := (h r hr).2; omega
theorem hear_outs_len {s : LS} {b : List Int} : (hearP s b).2.1.length ≤ 100 := by
  by_cases hr : refused s b
  · rw [hearP_bad hr]; simp
  · rw [hearP_ok hr]
    split
    · simp
    · show (outP _ _).length ≤ 100
      rw [outP_length]
      have := LS.room_le (gotP s (lparts (openF b).1))
      omega
theorem send_outs_len {s : LS} {p : List Int} : (sendP s p).1.length ≤ 100 := by
  unfold sendP
  split
  · simp
  · split
    · simp
    · show (outP _ _).length ≤ 100
      rw [outP_length]
      have := LS.room_le { s with rows := s.rows ++ [p] }
      omega
theorem tick_outs_len {s : LS} {N : Int} (h : s.Ok N) : (tickP s).1.length ≤ 100 := by
  have := h.u16
  unfold tickP
  split
  · simp
  · split
    · simp
    · simp; omega
end Go.Oct
