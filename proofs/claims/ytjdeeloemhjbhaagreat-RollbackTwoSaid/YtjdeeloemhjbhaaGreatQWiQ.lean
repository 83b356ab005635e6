/-
  wire, plain: what a frame holds.
-/
import Derived.Test.YtjdeeloemhjbhaaGreatQWiP

namespace Go.Oct
open Go.RowKit

def openF (bs : List Int) : List Int × Int :=
  if (decF bs).2.2 = 0 then (if (decF bs).2.1 = bs.length then ((decF bs).1, 0) else ([], 3)) else ([], (decF bs).2.2)
/-- so many numbers -/
def rdNums : Nat → List Int → Int → List Int × List Int × Int
  | 0, bs, e => ([], bs, e)
  | k + 1, bs, e => ((rdNum bs e).1 :: (rdNums k (rdNum bs e).2.1 (rdNum bs e).2.2).1, (rdNums k (rdNum bs e).2.1 (rdNum bs e).2.2).2)
theorem rdNums_length : ∀ (k : Nat) (bs : List Int) (e : Int), (rdNums k bs e).1.length = k
  | 0, _, _ => rfl
  | k + 1, bs, e => by simp [rdNums, rdNums_length k]
theorem rdNums_snoc : ∀ (k : Nat) (bs : List Int) (e : Int), rdNums (k + 1) bs e =
    ((rdNums k bs e).1 ++ [(rdNum (rdNums k bs e).2.1 (rdNums k bs e).2.2).1], (rdNum (rdNums k bs e).2.1 (rdNums k bs e).2.2).2)
  | 0, bs, e => rfl
  | k + 1, bs, e => by
    have ih := rdNums_snoc k (rdNum bs e).2.1 (rdNum bs e).2.2
    rw [rdNums, ih]
    rfl
theorem rdNums_bytes : ∀ (k : Nat) {bs : List Int} {e : Int}, Bytes bs → Bytes (rdNums k bs e).2.1
  | 0, _, _, h => h
  | k + 1, bs, e, h => rdNums_bytes k (rdNum_bytes h)
def endsF (bs : List Int) (e : Int) : Int := if e = 0 ∧ 0 < bs.length then 3 else e
/-- what stands in a frame's bytes: mark, kind, seq, how many numbers, these, data, the end -/
structure Parts where
  mark : Int
  kind : Int
  seq : Int
  many : Int
  nums : List Int
  data : List Int
  fin : Int
def r1 (p : List Int) : List Int × List Int × Int := tk 1 p 0
def r2 (p : List Int) : List Int × List Int × Int := tk 1 (r1 p).2.1 (r1 p).2.2
def r3 (p : List Int) : Int × List Int × Int := rdNum (r2 p).2.1 (r2 p).2.2
def r4 (p : List Int) : Int × List Int × Int := rdNum (r3 p).2.1 (r3 p).2.2
def r5 (p : List Int) : List Int × List Int × Int := rdNums (r4 p).1.toNat (r4 p).2.1 (r4 p).2.2
def r6 (p : List Int) : List Int × List Int × Int := rdBytes (r5 p).2.1 (r5 p).2.2
def partsOf (p : List Int) : Parts := ⟨le (r1 p).1, le (r2 p).1, (r3 p).1, (r4 p).1, (r5 p).1, (r6 p).1, endsF (r6 p).2.1 (r6 p).2.2⟩
def takeP (mark least top : Int) (most : Nat) (b : List Int) : Int × Int × List Int × List Int × Int :=
  if (openF b).2 ≠ 0 then (0, 0, [], [], (openF b).2)
  else
    let q := partsOf (openF b).1
    if q.many < 0 ∨ 80 < q.many then (0, 0, [], [], 3)
    else if q.fin ≠ 0 ∨ q.mark ≠ mark ∨ maySay q.kind least top q.seq q.nums.length q.data.length most ≠ 0 then (0, 0, [], [], 3)
    else (q.kind, q.seq, q.nums, q.data, 0)
theorem tk_one_bd {bs : List Int} {e : Int} (h : Bytes bs) : 0 ≤ le (tk 1 bs e).1 ∧ le (tk 1 bs e).1 < 256 := by
  have hb := (tk_bytes (n := 1) e h).1
  have hl := tk_length 1 bs e
  exact ⟨le_lo hb, by have := le_top hb (m := 1) hl; simpa using this⟩
end Go.Oct
