/-
  link, plain: an end of a link; what it sends, hears, and what a Tick does.
-/
import Derived.Test.YtdgalljalcediaaWiQ
namespace Go.Oct
open Go.RowKit

structure LS where
  id : Int
  rows : List (List Int)
  first : Int
  under : Nat
  came : Int
  waited : Int
  sent : Int
  vain : Int
def LS.new (id : Int) : LS := ⟨id, [], 1, 0, 0, 0, 0, 0⟩
/-- a packet; of the number 0: without a row -/
def packB (id n came : Int) (row : List Int) : List Int := num id ++ num n ++ num came ++ (if 0 < n then num row.length ++ row else [])
def packP (id n came : Int) (row : List Int) : List Int := (encF (packB id n came row)).1
/-- rows that wait go out: so many -/
def LS.room (s : LS) : Nat := min s.rows.length 16 - s.under
def outP (s : LS) (k : Nat) : List (List Int) := (List.range k).map fun j : Nat => packP s.id (s.first + s.under + j) s.came (s.rows[s.under + j]?.getD [])
def LS.went (s : LS) (k : Nat) : LS := { s with under := s.under + k, sent := s.sent + k, waited := if k = 0 then s.waited else 0 }
def fillP (s : LS) : List (List Int) × LS := (outP s s.room, s.went s.room)
def sendP (s : LS) (p : List Int) : List (List Int) × Int × LS :=
  if 4096 < p.length then ([], 5, s)
  else if 1000 ≤ s.rows.length then ([], 6, s)
  else ((fillP { s with rows := s.rows ++ [p] }).1, 0, (fillP { s with rows := s.rows ++ [p] }).2)
/-- what a packet's bytes hold -/
structure LP where
  id : Int
  n : Int
  ack : Int
  row : List Int
  fin : Int
def lq1 (p : List Int) : Int × List Int × Int := rdNum p 0
def lq2 (p : List Int) : Int × List Int × Int := rdNum (lq1 p).2.1 (lq1 p).2.2
def lq3 (p : List Int) : Int × List Int × Int := rdNum (lq2 p).2.1 (lq2 p).2.2
def lq4 (p : List Int) : List Int × List Int × Int := if 0 < (lq2 p).1 then rdBytes (lq3 p).2.1 (lq3 p).2.2 else ([], (lq3 p).2)
def lparts (p : List Int) : LP := ⟨(lq1 p).1, (lq2 p).1, (lq3 p).1, (lq4 p).1, endsF (lq4 p).2.1 (lq4 p).2.2⟩
def lokP (b : List Int) : Prop := (openF b).2 = 0 ∧ (lparts (openF b).1).fin = 0 ∧ 0 ≤ (lparts (openF b).1).n ∧ 0 ≤ (lparts (openF b).1).ack ∧ (lparts (openF b).1).row.length ≤ 4096
instance (b : List Int) : Decidable (lokP b) := by unfold lokP; exact inferInstance
/-- rows that are owned to are let go -/
def ackP (ack : Int) : Nat → LS → LS
  | 0, s => s
  | u + 1, s => if s.first ≤ ack then ackP ack u { s with rows := s.rows.tail, first := s.first + 1, under := u } else s
def hearP (s : LS) (b : List Int) : List (List Int) × List (List Int) × LS :=
  let q := lparts (openF b).1
  if ¬ lokP b ∨ q.id ≠ s.id then ([], [], { s with vain := s.vain + 1 })
  else
    let s1 := ackP q.ack s.under s
    let rows := if q.n ≠ 0 ∧ q.n = s1.came + 1 then [q.row] else []
    let s2 : LS := if q.n = 0 then s1 else if q.n = s1.came + 1 then { s1 with came := s1.came + 1 } else { s1 with vain := s1.vain + 1 }
    let out := (fillP s2).1
    let s3 := (fillP s2).2
    if 0 < q.n ∧ out = [] then (rows, [packP s3.id 0 s3.came []], { s3 with sent := s3.sent + 1 }) else (rows, out, s3)
def tickP (s : LS) : List (List Int) × LS :=
  if s.under = 0 then ([], { s with waited := 0 })
  else if s.waited + 1 < 5 then ([], { s with waited := s.waited + 1 })
  else ((List.range s.under).map fun j : Nat => packP s.id (s.first + j) s.came (s.rows[j]?.getD []), { s with waited := 0, sent := s.sent + s.under })
end Go.Oct
