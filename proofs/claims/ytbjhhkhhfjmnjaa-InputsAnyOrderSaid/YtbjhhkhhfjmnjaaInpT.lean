/-
  inputs: what is told, as cells.
-/
import Derived.Test.YtbjhhkhhfjmnjaaSlice
import Derived.Test.YtbjhhkhhfjmnjaaArgs
namespace Go.Proofs.Ytbjhhkhhfjmnjaa
open Go.RowKit Go.Sep

/-- rows of Told, as cells -/
def tv : List (Int × Int × Int) → List Value
  | [] => []
  | x :: r => .int .i64 x.1 :: .int .i64 x.2.1 :: .int .u16 x.2.2 :: tv r
theorem tv_length (l : List (Int × Int × Int)) : (tv l).length = l.length * 3 := by
  induction l with
  | nil => rfl
  | cons x r ih => simp only [tv, List.length_cons, ih]; omega
theorem tv_append (a b : List (Int × Int × Int)) : tv (a ++ b) = tv a ++ tv b := by
  induction a with
  | nil => rfl
  | cons x r ih => simp only [List.cons_append, tv, ih]
theorem tv_one (l : List (Int × Int × Int)) : ∀ u ∈ tv l, u.oneCell' = true := by
  induction l with
  | nil => intro u hu; simp [tv] at hu
  | cons x r ih =>
    intro u hu
    simp only [tv, List.mem_cons] at hu
    rcases hu with rfl | rfl | rfl | hu
    · rfl
    · rfl
    · rfl
    · exact ih u hu
theorem tv_at : ∀ {l : List (Int × Int × Int)} {k : Nat} {x : Int × Int × Int}, l[k]? = some x → (tv l)[k * 3]? = some (.int .i64 x.1) ∧ (tv l)[k * 3 + 1]? = some (.int .i64 x.2.1) ∧ (tv l)[k * 3 + 2]? = some (.int .u16 x.2.2)
  | [], k, x, h => by simp at h
  | y :: r, 0, x, h => by simp at h; subst h; exact ⟨rfl, rfl, rfl⟩
  | y :: r, k + 1, x, h => by
    have ih := tv_at (l := r) (k := k) (x := x) (by simpa using h)
    rw [show (k + 1) * 3 = k * 3 + 1 + 1 + 1 by omega]
    exact ih

abbrev ToldK : Kd (Int × Int × Int) := Kd.pair (Kd.int .i64) (Kd.pair (Kd.int .i64) (Kd.int .u16))
theorem told_flat {w : World} : ∀ {els : List (List Value)} {xs : List (Int × Int × Int)}, Each (ToldK.R w) els xs → els.flatten = tv xs
  | [], [], _ => rfl
  | [], x :: r, h => by have := h.1; simp at this
  | c :: s, [], h => by have := h.1; simp at this
  | c :: s, x :: r, h => by
    have h0 := h.2 0 c x rfl rfl
    obtain ⟨_, _, rfl, ⟨rfl, _⟩, _, _, rfl, ⟨rfl, _⟩, ⟨rfl, _⟩⟩ := h0
    rw [List.flatten_cons, told_flat (els := s) (xs := r) ⟨by have := h.1; simpa using this, fun i c x hc hx => h.2 (i + 1) c x hc hx⟩]
    rfl
theorem told_rd {w : World} {s : Sl (Int × Int × Int)} {c : List Value} (h : (Kd.sl ToldK).R w c s) : Rd w s.ao (tv s.xs) ∧ s.xs.length = s.len := by
  refine ⟨?_, h.2.1⟩
  rw [← told_flat h.2.2.2.1]
  exact h.2.2.1

theorem told_cells {w : World} {a : Option Addr} {l : List (Int × Int × Int)} (h : Rd w a (tv l)) {k : Nat} {x : Int × Int × Int} (hx : l[k]? = some x) : ∃ b off, a = some ⟨b, off, none⟩ ∧
    w.cell? ⟨b, off + k * 3, none⟩ = some (.int .i64 x.1) ∧ w.cell? ⟨b, off + k * 3 + 1, none⟩ = some (.int .i64 x.2.1) ∧ w.cell? ⟨b, off + k * 3 + 2, none⟩ = some (.int .u16 x.2.2) := by
  obtain ⟨h1, h2, h3⟩ := tv_at hx
  obtain ⟨b, off, rfl, c1⟩ := h _ _ h1
  exact ⟨b, off, rfl, c1, by have := h.at h2; rwa [← Nat.add_assoc] at this, by have := h.at h3; rwa [← Nat.add_assoc] at this⟩
theorem told_here {w : World} {b off : Nat} {l : List (Int × Int × Int)} (h : Rd w (some ⟨b, off, none⟩) (tv l)) {k : Nat} {x : Int × Int × Int} (hx : l[k]? = some x) :
    w.cell? ⟨b, off + k * 3, none⟩ = some (.int .i64 x.1) ∧ w.cell? ⟨b, off + k * 3 + 1, none⟩ = some (.int .i64 x.2.1) ∧ w.cell? ⟨b, off + k * 3 + 2, none⟩ = some (.int .u16 x.2.2) := by
  obtain ⟨b', off', e, h1⟩ := told_cells h hx
  cases e
  exact h1
theorem tv_take : ∀ (l : List (Int × Int × Int)) (k : Nat), (tv l).take (k * 3) = tv (l.take k)
  | [], k => by simp [tv]
  | x :: r, 0 => rfl
  | x :: r, k + 1 => by
    rw [show (k + 1) * 3 = k * 3 + 1 + 1 + 1 by omega]
    simp only [tv, List.take_succ_cons, tv_take r k]
theorem tv_drop : ∀ (l : List (Int × Int × Int)) (k : Nat), (tv l).drop (k * 3) = tv (l.drop k)
  | [], k => by simp [tv]
  | x :: r, 0 => rfl
  | x :: r, k + 1 => by
    rw [show (k + 1) * 3 = k * 3 + 1 + 1 + 1 by omega]
    simp only [tv, List.drop_succ_cons, tv_drop r k]
end Go.Proofs.Ytbjhhkhhfjmnjaa
