/-
  frame, plain: a record as bytes, and back.
-/
import Derived.Test.YtjdeeloemhjbhaaGreatQOctQ
import Derived.Test.YtjdeeloemhjbhaaGreatQCrcP

namespace Go.Oct
open Go.RowKit

def four4 (v : Int) : List Int := [v % 256, v / 256 % 256, v / 65536 % 256, v / 16777216]
theorem four4_length (v : Int) : (four4 v).length = 4 := rfl
theorem four4_bytes {v : Int} (h0 : 0 ≤ v) (h1 : v < 4294967296) : Bytes (four4 v) := by
  intro x hx
  simp only [four4, List.mem_cons, List.not_mem_nil, or_false] at hx
  rcases hx with rfl | rfl | rfl | rfl <;> omega
theorem le_four4 {v : Int} (h0 : 0 ≤ v) : le (four4 v) = v := by
  simp only [four4, le]
  omega
theorem crc_lt {bs : List Int} (h : Bytes bs) : crc bs < 4294967296 := by
  unfold crc; omega
theorem crc_bd (bs : List Int) : 0 ≤ (crc bs : Int) ∧ (crc bs : Int) < 4294967296 := by
  unfold crc; omega
theorem four4_le {a b c d : Int} (h : Bytes [a, b, c, d]) : four4 (le [a, b, c, d]) = [a, b, c, d] := by
  have h0 := h a (by simp)
  have h1 := h b (by simp)
  have h2 := h c (by simp)
  have h3 := h d (by simp)
  have e : le [a, b, c, d] = a + 256 * (b + 256 * (c + 256 * d)) := by simp [le]
  rw [e]
  unfold four4
  congr 1
  · omega
  · congr 1
    · omega
    · congr 1
      · omega
      · congr 1; omega
def crcB (bs : List Int) : List Int := four4 (crc bs : Int)
def headP (n : Int) : List Int := four4 n ++ crcB (four4 n)
def recP (p : List Int) : List Int := headP p.length ++ p ++ crcB (headP p.length ++ p)
theorem headP_length (n : Int) : (headP n).length = 8 := rfl
theorem headP_bytes {n : Int} (h0 : 0 ≤ n) (h1 : n < 4294967296) : Bytes (headP n) := (four4_bytes h0 h1).append (four4_bytes (crc_bd _).1 (crc_bd _).2)
theorem recP_length (p : List Int) : (recP p).length = p.length + 12 := by
  unfold recP
  rw [List.length_append, List.length_append, headP_length]
  show 8 + p.length + 4 = _
  omega
theorem recP_bytes {p : List Int} (hp : Bytes p) (h : p.length < 4294967296) : Bytes (recP p) :=
  ((headP_bytes (by omega) (by omega)).append hp).append (four4_bytes (crc_bd _).1 (crc_bd _).2)
def encF (p : List Int) : List Int × Int := if 65536 < p.length then ([], 5) else (recP p, 0)
/-- what the record holds that bytes begin with; how many bytes it has; an error -/
def decF (bs : List Int) : List Int × Int × Int :=
  if bs.length < 8 then ([], 0, 2)
  else if bs.take 8 ≠ headP (le (bs.take 4)) then ([], 0, 4)
  else if 65536 < le (bs.take 4) then ([], 0, 5)
  else if bs.length < 12 + (le (bs.take 4)).toNat then ([], 0, 2)
  else if le ((bs.drop (8 + (le (bs.take 4)).toNat)).take 4) ≠ crc (bs.take (8 + (le (bs.take 4)).toNat)) then ([], 0, 4)
  else ((bs.drop 8).take (le (bs.take 4)).toNat, 12 + le (bs.take 4), 0)
end Go.Oct
