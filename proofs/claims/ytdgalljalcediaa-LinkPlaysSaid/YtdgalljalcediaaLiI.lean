/-
  link: bytes and rows of bytes that came in.
-/
import Derived.Test.YtdgalljalcediaaArgs
import Derived.Test.YtdgalljalcediaaLaw0
import Derived.Test.YtdgalljalcediaaWiP
import Derived.Test.YtdgalljalcediaaFOct1
namespace Go.Proofs.Ytdgalljalcediaa
open Go.RowKit Go.Sep Go.Oct

theorem bytes_flat {w : World} : ∀ {els : List (List Value)} {xs : List Int}, Each ((Kd.int .u8).R w) els xs → els.flatten = bv xs ∧ Bytes xs
  | [], [], _ => ⟨rfl, fun x hx => by simp at hx⟩
  | [], x :: r, h => by have := h.1; simp at this
  | c :: s, [], h => by have := h.1; simp at this
  | c :: s, x :: r, h => by
    obtain ⟨rfl, hw⟩ := h.2 0 c x rfl rfl
    obtain ⟨h1, h2⟩ := bytes_flat (els := s) (xs := r) ⟨by have := h.1; simpa using this, fun i c x hc hx => h.2 (i + 1) c x hc hx⟩
    refine ⟨by rw [List.flatten_cons, h1]; rfl, ?_⟩
    intro y hy
    rcases List.mem_cons.1 hy with rfl | hy
    · exact u8_of_wf hw
    · exact h2 y hy
structure BRow (w : World) (s : Sl Int) : Prop where
  reach : s.len ≤ 140737488351232
  rd : Rd w s.ao (bv s.xs)
  len : s.xs.length = s.len
  bytes : Bytes s.xs
  le : s.len ≤ s.cap
  top : s.cap ≤ maxLen
  nil : s.ao = none → s.cap = 0
theorem bytes_rd {w : World} {s : Sl Int} {c : List Value} (h : (Kd.sl (Kd.int .u8)).R w c s) : BRow w s := by
  obtain ⟨_, h2, h3, h4, h5, h6, h7, h8⟩ := h
  obtain ⟨g1, g2⟩ := bytes_flat h4
  exact ⟨h8, by rw [← g1]; exact h3, h2, g2, h5, h6, h7⟩
/-- rows of bytes -/
structure BRows (w : World) (s : Sl (Sl Int)) : Prop where
  reach : s.len ≤ 140737488351232
  len : s.xs.length = s.len
  le : s.len ≤ s.cap
  top : s.cap ≤ maxLen
  nil : s.ao = none → s.cap = 0
  row : ∀ i r, s.xs[i]? = some r → ∃ b off, s.ao = some ⟨b, off, none⟩ ∧ w.cell? ⟨b, off + i, none⟩ = some (.slice r.ao r.len r.cap) ∧ BRow w r
theorem rows_rd {w : World} {s : Sl (Sl Int)} {c : List Value} (h : (Kd.sl (Kd.sl (Kd.int .u8))).R w c s) : BRows w s := by
  obtain ⟨_, h2, h3, h4, h5, h6, h7, h8⟩ := h
  refine ⟨h8, h2, h5, h6, h7, fun i r hi => ?_⟩
  have hl := h4.1
  have hi' : i < s.els.length := by rw [hl]; exact (List.getElem?_eq_some_iff.1 hi).1
  have hc := h4.2 i s.els[i] r (List.getElem?_eq_getElem hi') hi
  have hr := bytes_rd hc
  have he : s.els.flatten[i]? = some (.slice r.ao r.len r.cap) := by
    have key : ∀ (els : List (List Value)) (xs : List (Sl Int)), Each ((Kd.sl (Kd.int .u8)).R w) els xs → ∀ (i : Nat) (r : Sl Int), xs[i]? = some r → els.flatten[i]? = some (.slice r.ao r.len r.cap) := by
      intro els
      induction els with
      | nil => intro xs h i r hx; have := h.1; cases xs with
        | nil => simp at hx
        | cons a b => simp at this
      | cons e es ih =>
        intro xs h i r hx
        cases xs with
        | nil => simp at hx
        | cons a b =>
          have h0 := (h.2 0 e a rfl rfl).1
          subst h0
          cases i with
          | zero => cases hx; rfl
          | succ i =>
            exact ih b ⟨by have := h.1; simpa using this, fun i c x hc hx => h.2 (i + 1) c x hc hx⟩ i r (by simpa using hx)
    exact key _ _ h4 i r hi
  obtain ⟨b, off, ha, hcell⟩ := h3 i _ he
  exact ⟨b, off, ha, hcell, hr⟩
end Go.Proofs.Ytdgalljalcediaa
