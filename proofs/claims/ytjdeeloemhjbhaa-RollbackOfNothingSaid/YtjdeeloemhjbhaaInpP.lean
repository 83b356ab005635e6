/-
  inputs: plain functions: what is told, known, guessed of one player.
-/
import Derived.WalkKit
namespace Go.Inp
open Go.RowKit

structure PRow where
  ins : List Int
  kn : List Bool

def PRow.ok (r : PRow) (n : Nat) : Prop := r.ins.length = n ∧ r.kn.length = n

def lead : List Bool → Nat
  | true :: r => lead r + 1
  | _ => 0

def isKn (r : PRow) (k : Nat) : Bool := r.kn[k]?.getD false
def inAt (r : PRow) (k : Nat) : Int := r.ins[k]?.getD 0

def hasErr (a x : Int) : Int := if a = x then 8 else 18
theorem hasErr_eq {a x : Int} (h : a = x) : hasErr a x = 8 := if_pos h
theorem hasErr_ne {a x : Int} (h : ¬ a = x) : hasErr a x = 18 := if_neg h

def putR (n : Nat) (r : PRow) (fr : Int) (x : Int) : Int × PRow :=
  if fr < 0 ∨ (n : Int) ≤ fr then (1, r) else
  if isKn r fr.toNat = true then (hasErr (inAt r fr.toNat) x, r)
  else (0, ⟨r.ins.set fr.toNat x, r.kn.set fr.toNat true⟩)

def guess (r : PRow) : Nat → Int
  | 0 => 0
  | k + 1 => if isKn r k = true then inAt r k else guess r k

def getR (n : Nat) (r : PRow) (fr : Int) : Int × Bool :=
  if fr < 0 then (0, false) else
  if fr < n ∧ isKn r fr.toNat = true then (inAt r fr.toNat, true) else (guess r (min fr.toNat n), false)

theorem putR_ok {n : Nat} {r : PRow} (h : r.ok n) (fr x : Int) : (putR n r fr x).2.ok n := by
  unfold putR
  split
  · exact h
  · split
    · exact h
    · exact ⟨by simp [h.1], by simp [h.2]⟩

/-- what is known of both -/
structure PQ where
  n : Nat
  r0 : PRow
  r1 : PRow
def PQ.ok (q : PQ) : Prop := q.n ≤ 600 ∧ q.r0.ok q.n ∧ q.r1.ok q.n
def PQ.new (n : Nat) : PQ := ⟨n, ⟨List.replicate n 0, List.replicate n false⟩, ⟨List.replicate n 0, List.replicate n false⟩⟩
def PQ.put (q : PQ) (j fr x : Int) : Int × PQ :=
  if j = 0 then ((putR q.n q.r0 fr x).1, { q with r0 := (putR q.n q.r0 fr x).2 })
  else if j = 1 then ((putR q.n q.r1 fr x).1, { q with r1 := (putR q.n q.r1 fr x).2 })
  else (1, q)
def PQ.get (q : PQ) (j fr : Int) : Int × Bool := if j = 0 then getR q.n q.r0 fr else if j = 1 then getR q.n q.r1 fr else (0, false)
def PQ.known (q : PQ) (j : Int) : Nat := if j = 0 then lead q.r0.kn else if j = 1 then lead q.r1.kn else 0
def PQ.both (q : PQ) : Nat := min (lead q.r0.kn) (lead q.r1.kn)
def PQ.pairs (q : PQ) : List (Int × Int) := (List.range q.both).map fun i => (inAt q.r0 i, inAt q.r1 i)
theorem PQ.put_ok {q : PQ} (h : q.ok) (j fr x : Int) : (q.put j fr x).2.ok := by
  unfold PQ.put
  split
  · exact ⟨h.1, putR_ok h.2.1 _ _, h.2.2⟩
  · split
    · exact ⟨h.1, h.2.1, putR_ok h.2.2 _ _⟩
    · exact h
theorem PQ.new_ok {n : Nat} (h : n ≤ 600) : (PQ.new n).ok := ⟨h, ⟨by simp [PQ.new], by simp [PQ.new]⟩, by simp [PQ.new], by simp [PQ.new]⟩

theorem lead_le : ∀ l : List Bool, lead l ≤ l.length
  | [] => Nat.le_refl _
  | true :: r => by have := lead_le r; simp only [lead, List.length_cons]; omega
  | false :: r => by simp [lead]
theorem lead_lt : ∀ {l : List Bool} {k : Nat}, k < lead l → l[k]? = some true
  | [], k, h => by simp [lead] at h
  | true :: r, 0, _ => rfl
  | true :: r, k + 1, h => by simp only [lead] at h; exact lead_lt (l := r) (by omega)
  | false :: r, k, h => by simp [lead] at h
theorem lead_at : ∀ {l : List Bool}, l[lead l]? ≠ some true
  | [] => by simp [lead]
  | true :: r => by simp only [lead]; exact lead_at (l := r)
  | false :: r => by simp [lead]
theorem lead_eq {l : List Bool} {k : Nat} (h1 : ∀ i, i < k → l[i]? = some true) (h2 : l[k]? ≠ some true) : lead l = k := by
  rcases Nat.lt_trichotomy (lead l) k with h | h | h
  · exact absurd (h1 _ h) lead_at
  · exact h
  · exact absurd (lead_lt h) h2
end Go.Inp
