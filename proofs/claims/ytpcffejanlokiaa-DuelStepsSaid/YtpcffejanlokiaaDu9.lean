/-
  duel, plain: the states on the way.
-/
import Derived.Test.YtpcffejanlokiaaDu7
namespace Go.Proofs.Ytpcffejanlokiaa
open Go.RowKit Go.Sep Go.Vm
set_option linter.unusedSimpArgs false
section
variable {code : List (Int × Int)} {cap fuel : Int}
theorem framesP_at : ∀ (l : List (Int × Int)) (s : VS) (k : Nat) (t : VS), (s :: framesP code cap fuel s l)[k + 1]? = some t →
    ∃ u x, (s :: framesP code cap fuel s l)[k]? = some u ∧ l[k]? = some x ∧ u.over = false ∧ (stepP code cap fuel u x.1 x.2).1 = t
  | [], s, k, t, h => by simp [framesP] at h
  | x :: l, s, k, t, h => by
    cases ho : s.over with
    | true => rw [framesP_over ho] at h; simp at h
    | false =>
      have hf : framesP code cap fuel s (x :: l) = (stepP code cap fuel s x.1 x.2).1 :: framesP code cap fuel (stepP code cap fuel s x.1 x.2).1 l := by
        rw [framesP, if_neg (by rw [ho]; simp)]
      rw [hf] at h ⊢
      cases k with
      | zero => exact ⟨s, x, rfl, rfl, ho, by simpa using h⟩
      | succ k =>
        obtain ⟨u, y, h1, h2, h3, h4⟩ := framesP_at l _ k t (by simpa using h)
        exact ⟨u, y, by simpa using h1, by simpa using h2, h3, h4⟩
theorem framesP_short : ∀ (l : List (Int × Int)) (s : VS), (framesP code cap fuel s l).length = l.length ∨ (lastP s (framesP code cap fuel s l)).over = true
  | [], s => .inl rfl
  | x :: l, s => by
    cases ho : s.over with
    | true => rw [framesP_over ho]; exact .inr ho
    | false =>
      have hf : framesP code cap fuel s (x :: l) = (stepP code cap fuel s x.1 x.2).1 :: framesP code cap fuel (stepP code cap fuel s x.1 x.2).1 l := by
        rw [framesP, if_neg (by rw [ho]; simp)]
      rw [hf, lastP_cons]
      rcases framesP_short l (stepP code cap fuel s x.1 x.2).1 with h | h
      · exact .inl (by simp [h])
      · exact .inr h
end
end Go.Proofs.Ytpcffejanlokiaa
