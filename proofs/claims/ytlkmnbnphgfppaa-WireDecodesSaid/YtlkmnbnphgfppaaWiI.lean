/-
  wire: rows of numbers and bytes that came in.
-/
import Derived.Test.YtlkmnbnphgfppaaArgs
import Derived.Test.YtlkmnbnphgfppaaLaw0
import Derived.Test.YtlkmnbnphgfppaaWiP
import Derived.Test.YtlkmnbnphgfppaaFOct1
namespace Go.Proofs.Ytlkmnbnphgfppaa
open Go.RowKit Go.Sep Go.Oct

theorem nums_flat {w : World} : ∀ {els : List (List Value)} {xs : List Int}, Each ((Kd.int .i64).R w) els xs → els.flatten = nv xs ∧ I64s xs
  | [], [], _ => ⟨rfl, fun x hx => by simp at hx⟩
  | [], x :: r, h => by have := h.1; simp at this
  | c :: s, [], h => by have := h.1; simp at this
  | c :: s, x :: r, h => by
    obtain ⟨rfl, hw⟩ := h.2 0 c x rfl rfl
    obtain ⟨h1, h2⟩ := nums_flat (els := s) (xs := r) ⟨by have := h.1; simpa using this, fun i c x hc hx => h.2 (i + 1) c x hc hx⟩
    refine ⟨by rw [List.flatten_cons, h1]; rfl, ?_⟩
    intro y hy
    rcases List.mem_cons.1 hy with rfl | hy
    · exact i64_of_wf hw
    · exact h2 y hy
theorem bytes_flat {w : World} : ∀ {els : List (List Value)} {xs : List Int}, Each ((Kd.int .u8).R w) els xs → els.flatten = bv xs ∧ Bytes xs
  | [], [], _ => ⟨rfl, fun x hx => by simp at hx⟩
  | [], x :: r, h => by have := h.1; simp at this
  | c :: s, [], h => by have := h.1; simp at this
  | c :: s, x :: r, h => by
    obtain ⟨rfl, hw⟩ := h.2 0 c x rfl rfl
    obtain ⟨h1, h2⟩ := bytes_flat (els := s) (xs := r) ⟨by have := h.1; simpa using this, fun i c x hc hx => h.2 (i + 1) c x hc hx⟩
    refine ⟨by rw [List.flatten_cons, h1]; rfl, ?_⟩
    intro y hy
    rcases List.mem_cons.1 hy with rfl | hy
    · exact u8_of_wf hw
    · exact h2 y hy
theorem nums_rd {w : World} {s : Sl Int} {c : List Value} (h : (Kd.sl (Kd.int .i64)).R w c s) : Rd w s.ao (nv s.xs) ∧ s.xs.length = s.len ∧ I64s s.xs ∧ s.len ≤ s.cap ∧ s.cap ≤ maxLen := by
  obtain ⟨_, h2, h3, h4, h5, h6, _⟩ := h
  obtain ⟨g1, g2⟩ := nums_flat h4
  exact ⟨by rw [← g1]; exact h3, h2, g2, h5, h6⟩
theorem bytes_rd {w : World} {s : Sl Int} {c : List Value} (h : (Kd.sl (Kd.int .u8)).R w c s) : Rd w s.ao (bv s.xs) ∧ s.xs.length = s.len ∧ Bytes s.xs ∧ s.len ≤ s.cap ∧ s.cap ≤ maxLen := by
  obtain ⟨_, h2, h3, h4, h5, h6, _⟩ := h
  obtain ⟨g1, g2⟩ := bytes_flat h4
  exact ⟨by rw [← g1]; exact h3, h2, g2, h5, h6⟩
end Go.Proofs.Ytlkmnbnphgfppaa
