/-
  vm: rows of pairs as they are handed in.
-/
import Derived.Test.YtlkmkclohkbjeaaVmLwRuns
namespace Go.Proofs.Ytlkmkclohkbjeaa
open Go.RowKit Go.Sep Go.Vm

theorem pairs_flat {w : World} : ∀ {els : List (List Value)} {xs : List (List Int)}, Each ((Kd.arr 2 (Kd.int .u16)).R w) els xs → ∃ ps : List (Int × Int), ps.length = xs.length ∧ els.flatten = pairsv ps ∧ ∀ x ∈ ps, (0 ≤ x.1 ∧ x.1 < 65536) ∧ (0 ≤ x.2 ∧ x.2 < 65536)
  | [], [], _ => ⟨[], rfl, rfl, by simp⟩
  | [], x :: r, h => by simp [Each] at h
  | e :: r, [], h => by simp [Each] at h
  | e :: r, x :: l, h => by
    obtain ⟨i0, i1, he, b0, b1⟩ := pair2_rd (h.2 0 e x rfl rfl)
    obtain ⟨ps, h1, h2, h3⟩ := pairs_flat (els := r) (xs := l) ⟨by simpa using h.1, fun i c y hc hy => h.2 (i + 1) c y (by simpa using hc) (by simpa using hy)⟩
    refine ⟨(i0, i1) :: ps, by simp [h1], ?_, fun y hy => ?_⟩
    · rw [List.flatten_cons, h2, he]; rfl
    · rcases List.mem_cons.1 hy with rfl | hy
      · exact ⟨b0, b1⟩
      · exact h3 y hy
theorem pairs_rd {w : World} {s : Sl (List Int)} {c : List Value} (h : (Kd.sl (Kd.arr 2 (Kd.int .u16))).R w c s) : ∃ ps : List (Int × Int), Rd w s.ao (pairsv ps) ∧ ps.length = s.len ∧ ∀ x ∈ ps, (0 ≤ x.1 ∧ x.1 < 65536) ∧ (0 ≤ x.2 ∧ x.2 < 65536) := by
  obtain ⟨_, h2, h3, h4, _⟩ := h
  obtain ⟨ps, g1, g2, g3⟩ := pairs_flat h4
  exact ⟨ps, by rw [← g2]; exact h3, g1.trans h2, g3⟩
end Go.Proofs.Ytlkmkclohkbjeaa
