/-
  The check sum, over natural numbers.
-/
import Derived.Test.YtjdeeloemhjbhaaGreatQOctP

namespace Go.Oct
open Go.RowKit

def crcBit (v : Nat) : Nat := if v % 2 = 1 then v / 2 ^^^ 2197175160 else v / 2
def crcBits : Nat → Nat → Nat
  | 0, v => v
  | n + 1, v => crcBits n (crcBit v)
def crcByte (v c : Nat) : Nat := crcBits 8 (v ^^^ c)
def crcFold : Nat → List Int → Nat
  | v, [] => v
  | v, c :: r => crcFold (crcByte v c.toNat) r
def crc (bs : List Int) : Nat := 4294967295 - crcFold 4294967295 bs

theorem crcBit_lt {v : Nat} (h : v < 4294967296) : crcBit v < 4294967296 := by
  unfold crcBit
  split
  · exact Nat.xor_lt_two_pow (n := 32) (by omega) (by omega)
  · omega
theorem crcBits_lt : ∀ (n : Nat) {v : Nat}, v < 4294967296 → crcBits n v < 4294967296
  | 0, _, h => h
  | n + 1, _, h => crcBits_lt n (crcBit_lt h)
theorem crcBits_succ : ∀ (n v : Nat), crcBits (n + 1) v = crcBit (crcBits n v)
  | 0, _ => rfl
  | n + 1, v => crcBits_succ n (crcBit v)
theorem crcByte_lt {v c : Nat} (h : v < 4294967296) (hc : c < 256) : crcByte v c < 4294967296 := crcBits_lt 8 (Nat.xor_lt_two_pow (n := 32) h (by omega))
theorem crcFold_lt : ∀ (bs : List Int) {v : Nat}, v < 4294967296 → (∀ x ∈ bs, 0 ≤ x ∧ x < 256) → crcFold v bs < 4294967296
  | [], _, h, _ => h
  | c :: r, v, h, hb => by
    have hc := hb c (by simp)
    exact crcFold_lt r (crcByte_lt h (by omega)) (fun x hx => hb x (by simp [hx]))
theorem crcFold_snoc : ∀ (bs : List Int) (v : Nat) (c : Int), crcFold v (bs ++ [c]) = crcByte (crcFold v bs) c.toNat
  | [], _, _ => rfl
  | b :: r, v, c => crcFold_snoc r (crcByte v b.toNat) c

theorem xor_u32 {y : Nat} {x : Int} (hy : y < 4294967296) (h0 : 0 ≤ x) (h1 : x < 256) : bits .xor .u32 (y : Int) x = ((y ^^^ x.toNat : Nat) : Int) := by
  rw [u32_xor _ _ (by omega) (by omega) (by omega) (by omega)]
  rfl
theorem and_u32_one (u : Nat) (hu : u < 4294967296) : bits .and .u32 (u : Int) 1 = ((u % 2 : Nat) : Int) := by
  rw [u32_and _ _ (by omega) (by omega) (by omega) (by omega)]
  rw [Int.toNat_natCast, show (1 : Int).toNat = 2 ^ 1 - 1 from rfl, Nat.and_two_pow_sub_one_eq_mod]
theorem crc_step {u : Nat} (hu : u < 4294967296) :
    bits .xor .u32 ((u : Int) / 2) (bits .and .u32 2197175160 (-bits .and .u32 (u : Int) 1 % 4294967296)) = ((crcBit u : Nat) : Int) := by
  rw [and_u32_one u hu]
  have hmod : u % 2 = 0 ∨ u % 2 = 1 := by omega
  have h2 : ((u : Int) / 2).toNat = u / 2 := by omega
  rcases hmod with h | h
  · have e : (-((u % 2 : Nat) : Int) % 4294967296) = 0 := by rw [h]; rfl
    rw [e, u32_and _ _ (by omega) (by omega) (by omega) (by omega), u32_xor _ _ (by omega) (by omega) (by decide +kernel) (by decide +kernel), h2]
    unfold crcBit
    rw [if_neg (by omega)]
    simp
  · have e : (-((u % 2 : Nat) : Int) % 4294967296) = 4294967295 := by rw [h]; rfl
    have e2 : bits .and .u32 2197175160 4294967295 = 2197175160 := by
      rw [u32_and _ _ (by omega) (by omega) (by omega) (by omega)]; decide +kernel
    rw [e, e2, u32_xor _ _ (by omega) (by omega) (by omega) (by omega), h2]
    unfold crcBit
    rw [if_pos h]
    rfl
theorem crc_not {y : Nat} (hy : y < 4294967296) : bits .xor .u32 IntKind.u32.max (y : Int) = ((4294967295 - y : Nat) : Int) := by
  have e : IntKind.u32.max = 4294967295 := by decide
  rw [e, u32_xor _ _ (by omega) (by omega) (by omega) (by omega), Int.toNat_natCast, show (4294967295 : Int).toNat = 2 ^ 32 - 1 from rfl, Nat.xor_comm, xor_ones 32 y hy]
end Go.Oct
namespace Go.Oct
open Go.RowKit

/-! ### one byte that is another one -/
theorem crcBit_inj {u v : Nat} (hu : u < 4294967296) (hv : v < 4294967296) (h : crcBit u = crcBit v) : u = v := by
  have top : ∀ x : Nat, x < 4294967296 → (crcBit x).testBit 31 = decide (x % 2 = 1) := by
    intro x hx
    have h2 : (x / 2).testBit 31 = false := Nat.testBit_lt_two_pow (by omega)
    unfold crcBit
    split
    · rename_i h1
      rw [Nat.testBit_xor, h2, h1]
      decide
    · rename_i h1
      rw [h2]
      simp [h1]
  have e : decide (u % 2 = 1) = decide (v % 2 = 1) := by rw [← top u hu, ← top v hv, h]
  have e' : u % 2 = v % 2 := by
    have := decide_eq_decide.1 e
    omega
  unfold crcBit at h
  by_cases h1 : u % 2 = 1
  · rw [if_pos h1, if_pos (by omega)] at h
    have h3 : u / 2 ^^^ 2197175160 ^^^ 2197175160 = v / 2 ^^^ 2197175160 ^^^ 2197175160 := by rw [h]
    rw [Nat.xor_assoc, Nat.xor_assoc, Nat.xor_self, Nat.xor_zero, Nat.xor_zero] at h3
    omega
  · rw [if_neg h1, if_neg (by omega)] at h
    omega
theorem crcBits_inj : ∀ (n : Nat) {u v : Nat}, u < 4294967296 → v < 4294967296 → crcBits n u = crcBits n v → u = v
  | 0, _, _, _, _, h => h
  | n + 1, _, _, hu, hv, h => crcBit_inj hu hv (crcBits_inj n (crcBit_lt hu) (crcBit_lt hv) h)
theorem crcByte_inj {u v c : Nat} (hu : u < 4294967296) (hv : v < 4294967296) (hc : c < 256) (h : crcByte u c = crcByte v c) : u = v := by
  have h1 := crcBits_inj 8 (Nat.xor_lt_two_pow (n := 32) hu (by omega)) (Nat.xor_lt_two_pow (n := 32) hv (by omega)) h
  have h2 : u ^^^ c ^^^ c = v ^^^ c ^^^ c := by rw [h1]
  rwa [Nat.xor_assoc, Nat.xor_assoc, Nat.xor_self, Nat.xor_zero, Nat.xor_zero] at h2
theorem crcByte_inj2 {u c d : Nat} (hu : u < 4294967296) (hc : c < 256) (hd : d < 256) (h : crcByte u c = crcByte u d) : c = d := by
  have h1 := crcBits_inj 8 (Nat.xor_lt_two_pow (n := 32) hu (by omega)) (Nat.xor_lt_two_pow (n := 32) hu (by omega)) h
  have h2 : u ^^^ (u ^^^ c) = u ^^^ (u ^^^ d) := by rw [h1]
  rwa [← Nat.xor_assoc, ← Nat.xor_assoc, Nat.xor_self, Nat.zero_xor, Nat.zero_xor] at h2
theorem crcFold_inj : ∀ (bs : List Int) {u v : Nat}, Bytes bs → u < 4294967296 → v < 4294967296 → crcFold u bs = crcFold v bs → u = v
  | [], _, _, _, _, _, h => h
  | c :: r, _, _, hb, hu, hv, h => by
    have hc := hb c (by simp)
    have h1 := crcFold_inj r (fun x hx => hb x (by simp [hx])) (crcByte_lt hu (by omega)) (crcByte_lt hv (by omega)) h
    exact crcByte_inj hu hv (by omega) h1
theorem crcFold_append (v : Nat) : ∀ (a b : List Int), crcFold v (a ++ b) = crcFold (crcFold v a) b := by
  intro a
  induction a generalizing v with
  | nil => intro b; rfl
  | cons c r ih => intro b; exact ih _ b
/-- another byte in one place: another sum -/
theorem crc_set {bs : List Int} (hB : Bytes bs) {i : Nat} {c : Int} (hi : i < bs.length) (hc : 0 ≤ c ∧ c < 256) (hne : bs[i]? ≠ some c) : crc (bs.set i c) ≠ crc bs := by
  intro h
  obtain ⟨x, hx⟩ := at_some hi
  have hxb := hB.some hx
  have hset : bs.set i c = bs.take i ++ c :: bs.drop (i + 1) := by rw [List.set_eq_take_append_cons_drop, if_pos hi]
  have hold : bs = bs.take i ++ x :: bs.drop (i + 1) := by
    have hxx : bs[i] = x := (List.getElem?_eq_some_iff.1 hx).2
    rw [← hxx, ← List.drop_eq_getElem_cons hi, List.take_append_drop]
  have hl := crcFold_lt (bs.take i) (v := 4294967295) (by omega) (hB.take i)
  have e1 : crc (bs.set i c) = 4294967295 - crcFold (crcByte (crcFold 4294967295 (bs.take i)) c.toNat) (bs.drop (i + 1)) := by
    unfold crc; rw [hset, crcFold_append]; rfl
  have e2 : crc bs = 4294967295 - crcFold (crcByte (crcFold 4294967295 (bs.take i)) x.toNat) (bs.drop (i + 1)) := by
    unfold crc; conv => lhs; rw [hold]
    rw [crcFold_append]; rfl
  have b1 := crcFold_lt (bs.drop (i + 1)) (crcByte_lt hl (show c.toNat < 256 by omega)) (hB.drop (i + 1))
  have b2 := crcFold_lt (bs.drop (i + 1)) (crcByte_lt hl (show x.toNat < 256 by omega)) (hB.drop (i + 1))
  rw [e1, e2] at h
  have h1 := crcFold_inj (bs.drop (i + 1)) (hB.drop (i + 1)) (crcByte_lt hl (show c.toNat < 256 by omega)) (crcByte_lt hl (show x.toNat < 256 by omega)) (by omega)
  have h2 := crcByte_inj2 hl (by omega) (by omega) h1
  apply hne
  rw [hx]
  congr 1
  omega
end Go.Oct
