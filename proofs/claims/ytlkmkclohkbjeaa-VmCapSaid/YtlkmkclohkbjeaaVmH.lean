/-
  vm: the last frame ends a game: plain.
-/
import Derived.Test.YtlkmkclohkbjeaaVmL
namespace Go.Vm
open Go.RowKit

def zz : List Int := [0, 0, 0, 0, 0, 0, 0, 0, 0, 0, 0, 0, 0, 0, 0, 0]
def ab (a b : Int) : List Int := [a, b, 0, 0, 0, 0, 0, 0, 0, 0, 0, 0, 0, 0, 0, 0]
def ccode (a b : Int) : List (Int × Int) := [(1, a), (3, 0), (1, b), (3, 1)]
def ccodeW (a b win : Int) : List (Int × Int) := [(1, a), (3, 0), (1, b), (3, 1), (20, win)]
def capw (a b : Int) : Int := if b < a then 0 else if a < b then 1 else 2
/-- a row of states: each comes of the one ahead of it, and the last is over -/
structure Ends (code : List (Int × Int)) (lim : Int) (m : Nat) (w : Int) (st : Nat → VS) : Prop where
  first : st 0 = VS.start 1
  ok : ∀ k, k ≤ m → (st k).Ok
  frame : ∀ k, k ≤ m → (st k).frame = k
  more : ∀ k, k < m → (st k).over = false ∧ stepP code lim 20 (st k) 0 0 = (st (k + 1), 0)
  over : (st m).over = true
  last : stepP code lim 20 (st m) 0 0 = (VS.zero, 12)
  winner : (st m).winner = w
  lim1 : 1 ≤ m
  lim2 : (m : Int) ≤ lim
  len : code.length ≤ 256

theorem stepP_over {code : List (Int × Int)} {cap fuel : Int} {s : VS} {i0 i1 : Int} (hk : checkP code cap fuel = 0) (hi : isP s = true) (h0 : s.seed ≠ 0) (ho : s.over = true) : stepP code cap fuel s i0 i1 = (VS.zero, 12) := by
  unfold stepP
  rw [if_neg (by rw [hk]; simp), if_neg (by rw [hi]; simpa using h0), if_pos (Or.inl ho)]
theorem runC (a b : Int) (s : VS) : runP (ccode a b) (20 : Int).toNat ⟨s, 0, 0, [], 0, false, false⟩ = (true, ⟨{ s with cells := (s.cells.set 0 a).set 1 b }, 0, 0, [], 4, false, false⟩) := by kernel_rfl
theorem runW (a b win : Int) (s : VS) : runP (ccodeW a b win) (20 : Int).toNat ⟨s, 0, 0, [], 0, false, false⟩ = (true, ⟨{ s with cells := (s.cells.set 0 a).set 1 b, over := true, winner := win }, 0, 0, [], 5, true, false⟩) := by kernel_rfl
theorem checkC {a b lim : Int} (ha : -2147483648 ≤ a ∧ a ≤ 2147483647) (hb : -2147483648 ≤ b ∧ b ≤ 2147483647) (hl : 1 ≤ lim ∧ lim ≤ 40) : checkP (ccode a b) lim 20 = 0 := by
  refine checkP_of ?_ (by simp [ccode]) (by omega) (by omega)
  intro x hx
  simp only [ccode, List.mem_cons, List.not_mem_nil, or_false] at hx
  rcases hx with rfl | rfl | rfl | rfl <;> simp [mayP] <;> omega
theorem checkW {a b win lim : Int} (ha : -2147483648 ≤ a ∧ a ≤ 2147483647) (hb : -2147483648 ≤ b ∧ b ≤ 2147483647) (hl : 1 ≤ lim ∧ lim ≤ 40) (hw : 0 ≤ win ∧ win ≤ 2) : checkP (ccodeW a b win) lim 20 = 0 := by
  refine checkP_of ?_ (by simp [ccodeW]) (by omega) (by omega)
  intro x hx
  simp only [ccodeW, List.mem_cons, List.not_mem_nil, or_false] at hx
  rcases hx with rfl | rfl | rfl | rfl | rfl <;> simp [mayP] <;> omega
theorem ok_of {f w : Int} {c : List Int} {o : Bool} (hc : c.length = 16) (hb : ∀ x ∈ c, -2147483648 ≤ x ∧ x ≤ 2147483647) (hf : 0 ≤ f ∧ f ≤ 600) (hw : 0 ≤ w ∧ w ≤ 2) : (⟨f, c, 1, o, w⟩ : VS).Ok :=
  ⟨hc, hb, ⟨by show _ ≤ f; omega, by show f < _; omega⟩, ⟨by show (0 : Int) ≤ 1; decide, by show (1 : Int) < 4294967296; decide⟩, ⟨by show _ ≤ w; omega, by show w < _; omega⟩⟩
theorem ab_bd {a b : Int} (ha : -2147483648 ≤ a ∧ a ≤ 2147483647) (hb : -2147483648 ≤ b ∧ b ≤ 2147483647) : ∀ x ∈ ab a b, -2147483648 ≤ x ∧ x ≤ 2147483647 := by
  intro x hx
  simp only [ab, List.mem_cons, List.not_mem_nil, or_false] at hx
  omega
theorem zz_bd : ∀ x ∈ zz, -2147483648 ≤ x ∧ x ≤ 2147483647 := by
  intro x hx
  simp only [zz, List.mem_cons, List.not_mem_nil, or_false] at hx
  omega
theorem isP_of {f w : Int} {c : List Int} {o : Bool} (hf : 0 ≤ f ∧ f ≤ 600) (hw : 0 ≤ w ∧ w ≤ 2) (ho : o = true ∨ w = 0) : isP ⟨f, c, 1, o, w⟩ = true := by
  unfold isP
  simp only [Bool.and_eq_true, decide_eq_true_eq, Bool.or_eq_true]
  exact ⟨hf.1, hf.2, hw.1, hw.2, ho⟩
theorem capw_bd (a b : Int) : 0 ≤ capw a b ∧ capw a b ≤ 2 := by unfold capw; (repeat' split) <;> omega

/-- win ends it -/
def stW (a b win : Int) (k : Nat) : VS := if k = 0 then VS.start 1 else ⟨1, ab a b, 1, true, win⟩
theorem endsW {a b win lim : Int} (ha : -2147483648 ≤ a ∧ a ≤ 2147483647) (hb : -2147483648 ≤ b ∧ b ≤ 2147483647) (hl : 1 ≤ lim ∧ lim ≤ 40) (hw : 0 ≤ win ∧ win ≤ 2) : Ends (ccodeW a b win) lim 1 win (stW a b win) := by
  have hk := checkW ha hb hl hw
  refine ⟨rfl, ?_, ?_, ?_, rfl, ?_, rfl, by omega, by omega, by simp [ccodeW]⟩
  · intro k hk
    rcases (show k = 0 ∨ k = 1 by omega) with rfl | rfl
    · exact ok_of (c := zz) rfl zz_bd (by omega) (by omega)
    · exact ok_of rfl (ab_bd ha hb) (by omega) hw
  · intro k hk
    rcases (show k = 0 ∨ k = 1 by omega) with rfl | rfl <;> rfl
  · intro k h1
    obtain rfl : k = 0 := by omega
    refine ⟨rfl, ?_⟩
    show stepP _ lim 20 (VS.start 1) 0 0 = _
    rw [stepP_of hk (by decide +kernel) (by decide) rfl (by show (0 : Int) < lim; omega) (runW a b win _), if_pos rfl]
    unfold endP
    rw [if_neg (by simp)]
    rfl
  · exact stepP_over hk (isP_of (by omega) hw (Or.inl rfl)) (by show (1 : Int) ≠ 0; decide) rfl

/-- the last frame ends it -/
def stC (a b lim : Int) (k : Nat) : VS := ⟨k, if k = 0 then zz else ab a b, 1, decide (lim ≤ k), if lim ≤ k then capw a b else 0⟩
theorem endsC {a b : Int} {m : Nat} (ha : -2147483648 ≤ a ∧ a ≤ 2147483647) (hb : -2147483648 ≤ b ∧ b ≤ 2147483647) (hl : 1 ≤ m ∧ m ≤ 40) : Ends (ccode a b) m m (capw a b) (stC a b m) := by
  have hk := checkC ha hb (lim := m) (by omega)
  have hcw := capw_bd a b
  have hwn : ∀ k : Nat, 0 ≤ (if (m : Int) ≤ (k : Int) then capw a b else 0) ∧ (if (m : Int) ≤ (k : Int) then capw a b else 0) ≤ 2 := by
    intro k; split <;> omega
  refine ⟨?_, ?_, fun _ _ => rfl, ?_, ?_, ?_, ?_, by omega, by omega, by simp [ccode]⟩
  · unfold stC
    rw [if_pos rfl, decide_eq_false (by omega), if_neg (by omega)]
    rfl
  · intro k hk
    refine ok_of ?_ ?_ (by omega) (hwn k)
    · split <;> rfl
    · split
      · exact zz_bd
      · exact ab_bd ha hb
  · intro k h1
    have ho : (stC a b m k).over = false := decide_eq_false (by omega)
    refine ⟨ho, ?_⟩
    have hi : isP (stC a b m k) = true := isP_of (by omega) (hwn k) (Or.inr (if_neg (by omega)))
    rw [stepP_of hk hi (by show (1 : Int) ≠ 0; decide) ho (by show (k : Int) < m; omega) (runC a b _), if_pos rfl]
    have hc : ((stC a b m k).cells.set 0 a).set 1 b = ab a b := by unfold stC; simp only; split <;> rfl
    have hw : (stC a b m k).winner = 0 := if_neg (by omega)
    rw [hc]
    unfold endP
    simp only [ho, hw]
    by_cases h : (m : Int) ≤ (stC a b m k).frame + 1
    · rw [if_pos ⟨h, trivial⟩]
      have h' : (m : Int) ≤ ((k + 1 : Nat) : Int) := by have : (m : Int) ≤ (k : Int) + 1 := h; omega
      unfold stC
      rw [if_neg (by omega : ¬ k + 1 = 0), decide_eq_true h', if_pos h']
      rfl
    · rw [if_neg (fun hx => h hx.1)]
      have h' : ¬ (m : Int) ≤ ((k + 1 : Nat) : Int) := by have : ¬ (m : Int) ≤ (k : Int) + 1 := h; omega
      unfold stC
      rw [if_neg (by omega : ¬ k + 1 = 0), decide_eq_false h', if_neg h']
      rfl
  · exact decide_eq_true (by omega)
  · exact stepP_over hk (isP_of (by omega) (hwn m) (Or.inl (decide_eq_true (by omega)))) (by show (1 : Int) ≠ 0; decide) (decide_eq_true (by omega))
  · exact if_pos (by omega)
end Go.Vm
