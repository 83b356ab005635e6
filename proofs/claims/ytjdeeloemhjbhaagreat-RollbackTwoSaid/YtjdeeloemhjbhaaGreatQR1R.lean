/-
  Chapter 1's document: its Reader.
-/
import Derived.Laws.MakeOwn
import Derived.Deep.QuietTactic
import Derived.BigQuiet
import Derived.Test.YtjdeeloemhjbhaaGreatQVOct4

namespace Go.Proofs.YtjdeeloemhjbhaaGreat
open Go.RowKit Go.Sep Go.Oct

theorem tk_short {n : Nat} {bs : List Int} (h : bs.length < n) : tk n bs 0 = ([], [], 2) := by unfold tk; rw [if_neg (by simp), if_pos h]
theorem tk_enough {n : Nat} {bs : List Int} (h : ¬ bs.length < n) : tk n bs 0 = (bs.take n, bs.drop n, 0) := by unfold tk; rw [if_neg (by simp), if_neg h]
theorem tk_had {n : Nat} {bs : List Int} {e0 : Int} (h : e0 ≠ 0) : tk n bs e0 = ([], bs, e0) := by unfold tk; rw [if_pos h]
theorem tk_one (bs : List Int) (e0 : Int) : ∃ v, (if (tk 1 bs e0).2.2 = 0 then (tk 1 bs e0).1 else List.replicate 1 0) = [v] ∧ le (tk 1 bs e0).1 = v := by
  by_cases he : e0 = 0
  · subst he
    cases bs with
    | nil => rw [tk_short (by decide)]; exact ⟨0, rfl, rfl⟩
    | cons c r => rw [tk_enough (by simp)]; exact ⟨c, rfl, by simp [le]⟩
  · rw [tk_had he]
    exact ⟨0, by simp only [he, if_false]; rfl, rfl⟩
theorem tk_four {bs : List Int} (hB : Bytes bs) (e0 : Int) : ∃ a b c d, (if (tk 4 bs e0).2.2 = 0 then (tk 4 bs e0).1 else List.replicate 4 0) = [a, b, c, d] ∧ le (tk 4 bs e0).1 = a + b * 256 + c * 65536 + d * 16777216 ∧
    (0 ≤ a ∧ a < 256) ∧ (0 ≤ b ∧ b < 256) ∧ (0 ≤ c ∧ c < 256) ∧ (0 ≤ d ∧ d < 256) := by
  by_cases he : e0 = 0
  · subst he
    by_cases hs : bs.length < 4
    · rw [tk_short hs]; exact ⟨0, 0, 0, 0, rfl, rfl, by omega, by omega, by omega, by omega⟩
    · obtain ⟨a, b, c, d, r, rfl⟩ : ∃ a b c d r, bs = a :: b :: c :: d :: r := by
        match bs, hs with
        | [], h => exact absurd (by decide) h
        | [_], h => exact absurd (by show 1 < 4; decide) h
        | [_, _], h => exact absurd (by show 2 < 4; decide) h
        | [_, _, _], h => exact absurd (by show 3 < 4; decide) h
        | a :: b :: c :: d :: r, _ => exact ⟨a, b, c, d, r, rfl⟩
      rw [tk_enough hs]
      exact ⟨a, b, c, d, rfl, by show a + 256 * (b + 256 * (c + 256 * (d + 256 * 0))) = _; omega, hB a (by simp), hB b (by simp), hB c (by simp), hB d (by simp)⟩
  · rw [tk_had he]
    exact ⟨0, 0, 0, 0, by simp only [he, if_false]; rfl, rfl, by omega, by omega, by omega, by omega⟩
theorem tk_err {n : Nat} {bs : List Int} {e0 : Int} (h0 : e0 ≠ 0 → bs = []) (h : (tk n bs e0).2.2 ≠ 0) : (tk n bs e0).2.1 = [] := by
  by_cases he : e0 = 0
  · subst he
    by_cases hs : bs.length < n
    · rw [tk_short hs]
    · rw [tk_enough hs] at h; exact absurd rfl h
  · rw [tk_had he]; exact h0 he

theorem or_part {y x : Int} {P i : Nat} (hP : P = 2 ^ i) (hy : 0 ≤ y ∧ y < (P : Int)) (hx : 0 ≤ x ∧ x < 256) (hP2 : (P : Int) * 256 ≤ 4294967296) : bits .or .u32 y (x * (P : Int)) = y + x * (P : Int) := by
  have h1 : x * (P : Int) ≤ 255 * (P : Int) := Int.mul_le_mul_of_nonneg_right (by omega) (by omega)
  have h0 : 0 ≤ x * (P : Int) := Int.mul_nonneg hx.1 (by omega)
  rw [u32_or _ _ hy.1 (by omega) h0 (by omega)]
  obtain ⟨yn, rfl⟩ := Int.eq_ofNat_of_zero_le hy.1
  obtain ⟨xn, rfl⟩ := Int.eq_ofNat_of_zero_le hx.1
  rw [Int.toNat_natCast, show ((xn : Int) * (P : Int)).toNat = P * xn by rw [← Int.natCast_mul, Int.toNat_natCast, Nat.mul_comm], hP, or_above _ _ _ (by rw [← hP]; omega)]
  rw [Int.natCast_add, Int.natCast_mul, Int.mul_comm]

end Go.Proofs.YtjdeeloemhjbhaaGreat
