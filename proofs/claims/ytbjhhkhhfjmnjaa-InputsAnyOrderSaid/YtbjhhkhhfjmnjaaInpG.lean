/-
  inputs: what is guessed, and what one more frame that is told changes of it.
-/
import Derived.Test.YtbjhhkhhfjmnjaaInpP
namespace Go.Inp
open Go.RowKit

/-- the last frame ahead of k that is known, or -1 -/
def topR (r : PRow) : Nat → Int
  | 0 => -1
  | k + 1 => if isKn r k = true then k else topR r k

def setR (r : PRow) (f : Nat) (x : Int) : PRow := ⟨r.ins.set f x, r.kn.set f true⟩

theorem isKn_set {r : PRow} {f : Nat} {x : Int} {n : Nat} (h : r.ok n) (hf : f < n) (k : Nat) : isKn (setR r f x) k = if k = f then true else isKn r k := by
  unfold isKn setR
  have := h.2
  simp only [List.getElem?_set]
  by_cases e : k = f
  · subst e
    rw [if_pos rfl, if_pos (by omega), if_pos rfl]; rfl
  · rw [if_neg (Ne.symm e), if_neg e]
theorem inAt_set {r : PRow} {f : Nat} {x : Int} {n : Nat} (h : r.ok n) (hf : f < n) (k : Nat) : inAt (setR r f x) k = if k = f then x else inAt r k := by
  unfold inAt setR
  have := h.1
  simp only [List.getElem?_set]
  by_cases e : k = f
  · subst e
    rw [if_pos rfl, if_pos (by omega), if_pos rfl]; rfl
  · rw [if_neg (Ne.symm e), if_neg e]

theorem topR_lt (r : PRow) : ∀ k, topR r k < k
  | 0 => by simp [topR]
  | k + 1 => by
    have := topR_lt r k
    unfold topR
    split <;> omega

theorem guess_new {r : PRow} {f : Nat} {x : Int} {n : Nat} (h : r.ok n) (hf : f < n) (hn : isKn r f = false) : ∀ k, f < k → topR r k < f →
    guess (setR r f x) k = x ∧ topR (setR r f x) k = f
  | 0, h1, _ => by omega
  | k + 1, h1, h2 => by
    unfold topR at h2
    have hk : ¬ isKn r k = true := by
      intro hk
      rw [if_pos hk] at h2
      omega
    rw [if_neg hk] at h2
    by_cases e : k = f
    · subst e
      unfold guess topR
      rw [isKn_set h hf, inAt_set h hf, if_pos rfl, if_pos rfl, if_pos rfl, if_pos rfl]
      exact ⟨rfl, rfl⟩
    · have ih := guess_new (x := x) h hf hn k (by omega) h2
      unfold guess topR
      rw [isKn_set h hf, if_neg e, if_neg hk, if_neg hk]
      exact ih
theorem guess_old {r : PRow} {f : Nat} {x : Int} {n : Nat} (h : r.ok n) (hf : f < n) (hn : isKn r f = false) : ∀ k, (f < k → (f : Int) < topR r k) →
    guess (setR r f x) k = guess r k ∧ topR (setR r f x) k = topR r k
  | 0, _ => ⟨rfl, rfl⟩
  | k + 1, h1 => by
    unfold topR at h1
    by_cases hk : isKn r k = true
    · have e : k ≠ f := by rintro rfl; rw [hn] at hk; simp at hk
      unfold guess topR
      rw [isKn_set h hf, inAt_set h hf, if_neg e, if_neg e, if_pos hk, if_pos hk, if_pos hk, if_pos hk]
      exact ⟨rfl, rfl⟩
    · rw [if_neg hk] at h1
      have hl := topR_lt r k
      have e : k ≠ f := by
        rintro rfl
        have := h1 (by omega)
        omega
      have ih := guess_old (x := x) h hf hn k (fun hh => h1 (by omega))
      unfold guess topR
      rw [isKn_set h hf, if_neg e, if_neg hk, if_neg hk, if_neg hk, if_neg hk]
      exact ih

theorem isKn_far {r : PRow} {n : Nat} (h : r.ok n) {k : Nat} (hk : n ≤ k) : isKn r k = false := by
  unfold isKn
  rw [List.getElem?_eq_none (by have := h.2; omega)]
  rfl
theorem guess_far {r : PRow} {n : Nat} (h : r.ok n) : ∀ d, guess r (n + d) = guess r n
  | 0 => rfl
  | d + 1 => by
    have e : guess r (n + d + 1) = guess r (n + d) := by
      conv => lhs; unfold guess
      rw [isKn_far h (by omega), if_neg (by simp)]
    show guess r (n + d + 1) = _
    rw [e]
    exact guess_far h d

theorem getR_eq {r : PRow} {n : Nat} (h : r.ok n) (a : Nat) : getR n r a = (guess r (a + 1), isKn r a) := by
  unfold getR
  rw [if_neg (by omega), Int.toNat_natCast]
  by_cases ha : a < n
  · by_cases hk : isKn r a = true
    · rw [if_pos ⟨by omega, hk⟩]
      unfold guess
      rw [if_pos hk, hk]
    · rw [if_neg (fun hh => hk hh.2), Nat.min_eq_left (by omega)]
      rw [show guess r (a + 1) = guess r a from by unfold guess; rw [if_neg hk]; cases a <;> rfl]
      simp at hk
      rw [hk]
  · rw [if_neg (fun hh => by omega), Nat.min_eq_right (by omega), isKn_far h (by omega)]
    obtain ⟨d, rfl⟩ := Nat.exists_eq_add_of_le (show n ≤ a by omega)
    rw [Nat.add_assoc, guess_far h]

/-- the three that the law keeps: the best frame, its value, and whether the frame asked for is known -/
def G3 (r : PRow) (a : Nat) : Int × Int × Bool := (topR r (a + 1), guess r (a + 1), isKn r a)
theorem G3_set {r : PRow} {f : Nat} {x : Int} {n : Nat} (h : r.ok n) (hf : f < n) (hn : isKn r f = false) (a : Nat) :
    G3 (setR r f x) a = (if f ≤ a ∧ (G3 r a).1 < f then ((f : Int), x, (G3 r a).2.2 || decide (f = a)) else ((G3 r a).1, (G3 r a).2.1, (G3 r a).2.2 || decide (f = a))) := by
  have hb : isKn (setR r f x) a = (isKn r a || decide (f = a)) := by
    rw [isKn_set h hf]
    by_cases e : a = f
    · subst e; simp
    · rw [if_neg e, decide_eq_false (Ne.symm e), Bool.or_false]
  unfold G3
  simp only
  rw [hb]
  by_cases hc : f ≤ a ∧ topR r (a + 1) < f
  · obtain ⟨h1, h2⟩ := guess_new (x := x) h hf hn (a + 1) (by omega) hc.2
    rw [if_pos hc, h1, h2]
  · have hne : f ≤ a → topR r (a + 1) ≠ f := by
      intro hfa he
      have key : ∀ k, topR r k = f → isKn r f = true := by
        intro k
        induction k with
        | zero => intro hh; simp [topR] at hh
        | succ k ih =>
          intro hh
          unfold topR at hh
          split at hh
          · rename_i hk
            have : k = f := by omega
            subst this; exact hk
          · exact ih hh
      rw [key _ he] at hn
      simp at hn
    obtain ⟨h1, h2⟩ := guess_old (x := x) h hf hn (a + 1) (fun hh => by have := hne (by omega); omega)
    rw [if_neg hc, h1, h2]

theorem isKn_none (n k : Nat) : isKn ⟨List.replicate n 0, List.replicate n false⟩ k = false := by
  unfold isKn
  simp only [List.getElem?_replicate]
  split <;> rfl
theorem guess_none (n : Nat) : ∀ k, guess ⟨List.replicate n 0, List.replicate n false⟩ k = 0 ∧ topR ⟨List.replicate n 0, List.replicate n false⟩ k = -1
  | 0 => ⟨rfl, rfl⟩
  | k + 1 => by
    unfold guess topR
    rw [isKn_none, if_neg (by simp), if_neg (by simp)]
    exact guess_none n k
theorem G3_none (n a : Nat) : G3 ⟨List.replicate n 0, List.replicate n false⟩ a = (-1, 0, false) := by
  unfold G3
  rw [(guess_none n _).1, (guess_none n _).2, isKn_none]
theorem get0_none {q : PQ} (h : q.ok) {n : Nat} (h0 : q.r0 = (PQ.new n).r0) (a : Nat) : q.get 0 a = (0, false) := by
  unfold PQ.get
  rw [if_pos rfl, getR_eq h.2.1, h0]
  show (guess ⟨List.replicate n 0, List.replicate n false⟩ (a + 1), isKn ⟨List.replicate n 0, List.replicate n false⟩ a) = _
  rw [(guess_none n _).1, isKn_none]

theorem put0_known {q : PQ} {f : Nat} (hn : f < q.n) (hk : isKn q.r0 f = true) (x : Int) : q.put 0 f x = (hasErr (inAt q.r0 f) x, q) := by
  unfold PQ.put putR
  rw [if_pos rfl, if_neg (by omega), Int.toNat_natCast, if_pos hk]
theorem put0_new {q : PQ} {f : Nat} (hn : f < q.n) (hk : isKn q.r0 f = false) (x : Int) : q.put 0 f x = (0, { q with r0 := setR q.r0 f x }) := by
  unfold PQ.put putR
  rw [if_pos rfl, if_neg (by omega), Int.toNat_natCast, if_neg (by rw [hk]; simp)]
  rfl
theorem put1_known {q : PQ} {f : Nat} (hn : f < q.n) (hk : isKn q.r1 f = true) (x : Int) : q.put 1 f x = (hasErr (inAt q.r1 f) x, q) := by
  unfold PQ.put putR
  rw [if_neg (by decide), if_pos rfl, if_neg (by omega), Int.toNat_natCast, if_pos hk]
theorem put1_new {q : PQ} {f : Nat} (hn : f < q.n) (hk : isKn q.r1 f = false) (x : Int) : q.put 1 f x = (0, { q with r1 := setR q.r1 f x }) := by
  unfold PQ.put putR
  rw [if_neg (by decide), if_pos rfl, if_neg (by omega), Int.toNat_natCast, if_neg (by rw [hk]; simp)]
  rfl
theorem hasErr_pos (a x : Int) : hasErr a x = 8 ∨ hasErr a x = 18 := by unfold hasErr; split <;> simp
end Go.Inp
