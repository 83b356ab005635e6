/-
  octet: plain functions over whole numbers and lists: numbers as digits, and back; the check sum.
-/
import Derived.WalkKit

namespace Go.Oct
open Go.RowKit

def zig (v : Int) : Int := if 0 ≤ v then 2 * v else -2 * v - 1

def digs : Nat → Int → List Int
  | 0, u => [u]
  | n + 1, u => if 128 ≤ u then (u % 128 + 128) :: digs n (u / 128) else [u]

def num (v : Int) : List Int := digs 9 (zig v)

theorem zig_lo (v : Int) : 0 ≤ zig v := by unfold zig; split <;> omega
theorem zig_hi {v : Int} (h0 : -9223372036854775808 ≤ v) (h1 : v < 9223372036854775808) : zig v < 18446744073709551616 := by unfold zig; split <;> omega

theorem zig_pos {v : Int} (h0 : 0 ≤ v) (h1 : v < 9223372036854775808) : bits .xor .u64 (IntKind.u64.wrap (wrap64 (v * 2))) (v / 9223372036854775808) = zig v := by
  have e1 : IntKind.u64.wrap (wrap64 (v * 2)) = 2 * v := by rw [IntKind.wrap_u64]; unfold wrap64; omega
  have e2 : v / 9223372036854775808 = 0 := by omega
  rw [e1, e2, u64_xor _ _ (by omega) (by omega) (by omega) (by omega)]
  unfold zig
  rw [if_pos h0]
  simp
  omega

theorem xor_ones (k n : Nat) (h : n < 2 ^ k) : n ^^^ (2 ^ k - 1) = 2 ^ k - 1 - n := by
  apply Nat.eq_of_testBit_eq
  intro i
  rw [Nat.testBit_xor, show 2 ^ k - 1 - n = 2 ^ k - (n + 1) by omega, Nat.testBit_two_pow_sub_succ h, show 2 ^ k - 1 = 2 ^ k - (0 + 1) by omega, Nat.testBit_two_pow_sub_succ (Nat.two_pow_pos k)]
  by_cases hi : i < k
  · simp [hi]
  · have : n.testBit i = false := Nat.testBit_lt_two_pow (Nat.lt_of_lt_of_le h (Nat.pow_le_pow_right (by decide) (by omega)))
    simp [hi, this]

theorem zig_neg {v : Int} (h0 : v < 0) (h1 : -9223372036854775808 ≤ v) : bits .xor .u64 (IntKind.u64.wrap (wrap64 (v * 2))) (IntKind.u64.wrap (v / 9223372036854775808)) = zig v := by
  have e1 : IntKind.u64.wrap (wrap64 (v * 2)) = 18446744073709551616 + 2 * v := by rw [IntKind.wrap_u64]; unfold wrap64; omega
  have e2 : IntKind.u64.wrap (v / 9223372036854775808) = 18446744073709551615 := by rw [IntKind.wrap_u64]; omega
  rw [e1, e2, u64_xor _ _ (by omega) (by omega) (by omega) (by omega)]
  unfold zig
  rw [if_neg (by omega)]
  obtain ⟨n, hn⟩ : ∃ n : Nat, 18446744073709551616 + 2 * v = n := ⟨(18446744073709551616 + 2 * v).toNat, by omega⟩
  rw [hn]
  have hlt : n < 18446744073709551616 := by omega
  have hx : n ^^^ 18446744073709551615 = 18446744073709551615 - n := xor_ones 64 n hlt
  simp only [Int.toNat_natCast]
  rw [show (18446744073709551615 : Int).toNat = 18446744073709551615 from rfl, hx]
  omega

theorem or128 (u : Int) : bits .or .u8 (u % 256) 128 = u % 128 + 128 := by
  rw [u8_or _ _ (by omega) (by omega) (by omega) (by omega)]
  have hall : ∀ n, n < 256 → n ||| 128 = n % 128 + 128 := by decide +kernel
  have := hall (u % 256).toNat (by omega)
  rw [show (128 : Int).toNat = 128 from rfl, this]
  omega

theorem digs_lt {x : Int} (n : Nat) (h : x < 128) : digs n x = [x] := by
  cases n with
  | zero => rfl
  | succ n => simp only [digs]; rw [if_neg (by omega)]
theorem digs_ge {x : Int} (n : Nat) (h : 128 ≤ x) : digs (n + 1) x = (x % 128 + 128) :: digs n (x / 128) := by
  simp only [digs]; rw [if_pos h]
theorem pow_step {x : Int} {n : Nat} (h : x < 128 ^ (n + 1 + 1)) : x / 128 < 128 ^ (n + 1) := by
  have : (128 : Int) ^ (n + 1 + 1) = 128 ^ (n + 1) * 128 := Int.pow_succ ..
  omega

theorem digs_length : ∀ n u, (digs n u).length ≤ n + 1
  | 0, u => by simp [digs]
  | n + 1, u => by
    simp only [digs]
    split
    · have := digs_length n (u / 128); simp; omega
    · simp
theorem num_length (v : Int) : (num v).length ≤ 10 := digs_length 9 _

/-- the next bytes: what comes, what is left, the error -/
def tk (n : Nat) (bs : List Int) (e : Int) : List Int × List Int × Int :=
  if e ≠ 0 then ([], bs, e) else if bs.length < n then ([], [], 2) else (bs.take n, bs.drop n, 0)

/-- the number of bytes, the lowest first -/
def le : List Int → Int
  | [] => 0
  | c :: r => c + 256 * le r

def Bytes (bs : List Int) : Prop := ∀ x ∈ bs, 0 ≤ x ∧ x < 256
instance (bs : List Int) : Decidable (Bytes bs) := by unfold Bytes; infer_instance
theorem Bytes.take {bs : List Int} (h : Bytes bs) (n : Nat) : Bytes (bs.take n) := fun x hx => h x (List.mem_of_mem_take hx)
theorem Bytes.drop {bs : List Int} (h : Bytes bs) (n : Nat) : Bytes (bs.drop n) := fun x hx => h x (List.mem_of_mem_drop hx)
theorem Bytes.append {a b : List Int} (h : Bytes a) (k : Bytes b) : Bytes (a ++ b) := fun x hx => by
  rcases List.mem_append.1 hx with hx | hx
  · exact h x hx
  · exact k x hx
theorem Bytes.getD {bs : List Int} (h : Bytes bs) (k : Nat) : 0 ≤ bs[k]?.getD 0 ∧ bs[k]?.getD 0 < 256 := by
  cases e : bs[k]? with
  | none => simp
  | some x => simpa using h x (List.mem_of_getElem? e)

theorem le_lo : ∀ {bs : List Int}, Bytes bs → 0 ≤ le bs
  | [], _ => by simp [le]
  | c :: r, h => by
    have h1 := h c (by simp)
    have h2 := le_lo (bs := r) (fun x hx => h x (by simp [hx]))
    simp only [le]; omega
theorem le_hi : ∀ {bs : List Int}, Bytes bs → le bs < 256 ^ bs.length
  | [], _ => by simp [le]
  | c :: r, h => by
    have h1 := h c (by simp)
    have h2 := le_hi (bs := r) (fun x hx => h x (by simp [hx]))
    simp only [le, List.length_cons, Int.pow_succ]; omega
theorem pow_mono (k : Nat) : ∀ d : Nat, (256 : Int) ^ k ≤ 256 ^ (k + d) ∧ (0 : Int) < 256 ^ (k + d)
  | 0 => ⟨Int.le_refl _, Int.pow_pos (by decide)⟩
  | d + 1 => by
    have h := pow_mono k d
    rw [← Nat.add_assoc, Int.pow_succ]
    omega
theorem le_top {bs : List Int} (h : Bytes bs) {m : Nat} (hm : bs.length ≤ m) : le bs < 256 ^ m := by
  have h1 := le_hi h
  have h2 := (pow_mono bs.length (m - bs.length)).1
  rw [show bs.length + (m - bs.length) = m by omega] at h2
  omega
theorem le_snoc : ∀ (bs : List Int) (c : Int), le (bs ++ [c]) = le bs + 256 ^ bs.length * c
  | [], c => by simp [le]
  | b :: r, c => by
    simp only [List.cons_append, le, le_snoc r c, List.length_cons, Int.pow_succ]
    rw [Int.mul_add, Int.add_assoc, ← Int.mul_assoc, Int.mul_comm 256 (256 ^ r.length)]

theorem or_above (a b i : Nat) (h : b < 2 ^ i) : b ||| (2 ^ i * a) = b + 2 ^ i * a := by
  rw [Nat.or_comm, ← Nat.two_pow_add_eq_or_of_lt h, Nat.add_comm]

theorem cell_getD {bs : List Int} {k : Nat} (h : k < bs.length) : (bs.map (Value.int .u8))[k]? = some (.int .u8 (bs[k]?.getD 0)) := by
  simp [List.getElem?_eq_getElem h]

theorem at_some {α : Type} {l : List α} {k : Nat} (h : k < l.length) : ∃ x, l[k]? = some x := ⟨l[k], List.getElem?_eq_getElem h⟩
theorem cell_some {bs : List Int} {k : Nat} {x : Int} (h : bs[k]? = some x) : (bs.map (Value.int .u8))[k]? = some (.int .u8 x) := by
  simp [h]
theorem cell_prefix {bs cs : List Int} {k : Nat} {x : Int} (h : bs[k]? = some x) : ((bs ++ cs).map (Value.int .u8))[k]? = some (.int .u8 x) := by
  have hk := (List.getElem?_eq_some_iff.1 h).1
  rw [List.getElem?_map, List.getElem?_append_left hk, h]
  rfl
theorem Bytes.some {bs : List Int} (hB : Bytes bs) {k : Nat} {x : Int} (h : bs[k]? = some x) : 0 ≤ x ∧ x < 256 := hB x (List.mem_of_getElem? h)

theorem le_step {bs : List Int} (hB : Bytes bs) (k : Nat) (hk : k < bs.length) (h4 : k < 4) :
    bits .or .u32 (le (bs.take k)) (bs[k]?.getD 0 % 4294967296 * 2 ^ (8 * k) % 4294967296) = le (bs.take (k + 1)) := by
  have hx := hB.getD k
  have hl0 := le_lo (hB.take k)
  have hl1 := le_hi (hB.take k)
  rw [List.length_take, Nat.min_eq_left (by omega)] at hl1
  have hs : bs.take (k + 1) = bs.take k ++ [bs[k]?.getD 0] := by
    rw [List.take_add_one, List.getElem?_eq_getElem hk]; rfl
  rw [hs, le_snoc, List.length_take, Nat.min_eq_left (by omega)]
  generalize bs[k]?.getD 0 = x at *
  generalize le (bs.take k) = y at *
  have hp : ∀ (P : Nat) (i : Nat), P = 2 ^ i → y < (P : Int) → (P : Int) * 256 ≤ 4294967296 → bits .or .u32 y (x % 4294967296 * (P : Int) % 4294967296) = y + (P : Int) * x := by
    intro P i hP hy hP2
    have h1 : (P : Int) * x ≤ (P : Int) * 255 := Int.mul_le_mul_of_nonneg_left (by omega) (by omega)
    have h0 : 0 ≤ (P : Int) * x := Int.mul_nonneg (by omega) hx.1
    have e1 : x % 4294967296 * (P : Int) % 4294967296 = (P : Int) * x := by
      rw [Int.emod_eq_of_lt hx.1 (by omega), Int.mul_comm, Int.emod_eq_of_lt h0 (by omega)]
    rw [e1, u32_or _ _ (by omega) (by omega) h0 (by omega)]
    obtain ⟨yn, rfl⟩ := Int.eq_ofNat_of_zero_le hl0
    obtain ⟨xn, rfl⟩ := Int.eq_ofNat_of_zero_le hx.1
    rw [Int.toNat_natCast, show ((P : Int) * (xn : Int)).toNat = P * xn by rw [← Int.natCast_mul]; rfl, hP, or_above _ _ _ (by rw [← hP]; omega)]
    simp
  match k, h4 with
  | 0, _ => exact hp 1 0 rfl (by simpa using hl1) (by omega)
  | 1, _ => exact hp 256 8 rfl (by simpa using hl1) (by omega)
  | 2, _ => exact hp 65536 16 rfl (by simpa using hl1) (by omega)
  | 3, _ => exact hp 16777216 24 rfl (by simpa using hl1) (by omega)

theorem le_step' {bs : List Int} (hB : Bytes bs) {k : Nat} {x : Int} (hx : bs[k]? = .some x) (h4 : k < 4) :
    bits .or .u32 (le (bs.take k)) (x * 2 ^ (8 * k) % 4294967296) = le (bs.take (k + 1)) := by
  have h := le_step hB k (List.getElem?_eq_some_iff.1 hx).1 h4
  have hb := hB.some hx
  rw [hx] at h
  rw [← h, Option.getD_some, Int.emod_eq_of_lt hb.1 (by omega : x < 4294967296)]

theorem tk_lt {n : Nat} {bs : List Int} (h : bs.length < n) : tk n bs 0 = ([], [], 2) := by simp [tk, h]
theorem tk_ge {n : Nat} {bs : List Int} (h : n ≤ bs.length) : tk n bs 0 = (bs.take n, bs.drop n, 0) := by
  unfold tk
  rw [if_neg (by simp), if_neg (by omega)]
theorem tk_err {n : Nat} {bs : List Int} {e : Int} (h : e ≠ 0) : tk n bs e = ([], bs, e) := by simp [tk, h]
theorem tk_length (n : Nat) (bs : List Int) (e : Int) : (tk n bs e).1.length ≤ n := by
  unfold tk
  split
  · simp
  · split
    · simp
    · simp; omega
theorem tk_bytes {n : Nat} {bs : List Int} (e : Int) (h : Bytes bs) : Bytes (tk n bs e).1 ∧ Bytes (tk n bs e).2.1 := by
  unfold tk
  split
  · exact ⟨fun x hx => by simp at hx, h⟩
  · split
    · exact ⟨fun x hx => by simp at hx, fun x hx => by simp at hx⟩
    · exact ⟨h.take n, h.drop n⟩

theorem xor_i64_zero {x : Int} (h0 : 0 ≤ x) (h1 : x < 9223372036854775808) : bits .xor .i64 x 0 = x := by
  obtain ⟨n, rfl⟩ := Int.eq_ofNat_of_zero_le h0
  have hn : n < 2 ^ 64 := by omega
  have e : bits .xor .i64 (n : Int) 0 = IntKind.i64.wrap ((n % 2 ^ 64 : Nat) : Int) := by
    simp [bits]
    rfl
  rw [e, Nat.mod_eq_of_lt hn, IntKind.wrap_i64]
  omega
theorem xor_i64_ones {x : Int} (h0 : 0 ≤ x) (h1 : x < 9223372036854775808) : bits .xor .i64 x (-1) = -x - 1 := by
  obtain ⟨n, rfl⟩ := Int.eq_ofNat_of_zero_le h0
  have hn : n < 2 ^ 64 := by omega
  have e : bits .xor .i64 (n : Int) (-1) = IntKind.i64.wrap (((n % 2 ^ 64) ^^^ (2 ^ 64 - 1) : Nat) : Int) := by
    simp only [bits, BitVec.toNat_xor, BitVec.ofInt_natCast, BitVec.toNat_ofNat]
    rfl
  rw [e, Nat.mod_eq_of_lt hn, xor_ones 64 n hn, IntKind.wrap_i64]
  omega
theorem and_u64_one {y : Int} (h0 : 0 ≤ y) (h1 : y < 18446744073709551616) : bits .and .u64 y 1 = y % 2 := by
  rw [u64_and _ _ h0 h1 (by omega) (by omega)]
  obtain ⟨n, rfl⟩ := Int.eq_ofNat_of_zero_le h0
  rw [Int.toNat_natCast, show (1 : Int).toNat = 2 ^ 1 - 1 from rfl, Nat.and_two_pow_sub_one_eq_mod]
  simp
theorem fin_num {y : Int} (h0 : 0 ≤ y) (h1 : y < 18446744073709551616) :
    bits .xor .i64 (wrap64 (y / 2)) (wrap64 (-wrap64 (bits .and .u64 y 1))) = if y % 2 = 0 then y / 2 else -(y / 2) - 1 := by
  rw [and_u64_one h0 h1]
  have e1 : wrap64 (y / 2) = y / 2 := by unfold wrap64; omega
  rw [e1]
  split
  · rename_i h
    rw [h, show wrap64 (-wrap64 0) = 0 by unfold wrap64; omega]
    have hy : 0 ≤ y / 2 ∧ y / 2 < 9223372036854775808 := by omega
    exact xor_i64_zero hy.1 hy.2
  · rename_i h
    rw [show y % 2 = 1 by omega, show wrap64 (-wrap64 1) = -1 by unfold wrap64; omega]
    have hy : 0 ≤ y / 2 ∧ y / 2 < 9223372036854775808 := by omega
    exact xor_i64_ones hy.1 hy.2
theorem and_u8_127 {c : Int} (h0 : 0 ≤ c) (h1 : c < 256) : bits .and .u8 c 127 = c % 128 := by
  rw [u8_and _ _ h0 h1 (by omega) (by omega)]
  obtain ⟨n, rfl⟩ := Int.eq_ofNat_of_zero_le h0
  rw [Int.toNat_natCast, show (127 : Int).toNat = 2 ^ 7 - 1 from rfl, Nat.and_two_pow_sub_one_eq_mod]
  simp
theorem two128 (k : Nat) : (2 : Int) ^ (7 * k) = 128 ^ k := by rw [Int.pow_mul]; rfl
theorem nat128 (k : Nat) : (128 : Int) ^ k = ((2 ^ (7 * k) : Nat) : Int) := by rw [← two128]; simp
theorem mono128 {k m : Nat} (h : k ≤ m) : (128 : Int) ^ k ≤ 128 ^ m := by
  rw [nat128, nat128]
  exact_mod_cast Nat.pow_le_pow_right (by decide) (by omega)
theorem acc_bd {k : Nat} {c : Int} (h0 : 0 ≤ c) (hk : k < 9 ∨ (k = 9 ∧ c ≤ 1)) : 0 ≤ c % 128 * 128 ^ k ∧ (k < 9 → c % 128 * 128 ^ k ≤ 127 * 128 ^ k) ∧ c % 128 * 128 ^ k ≤ 9223372036854775808 := by
  have hp : (0 : Int) < 128 ^ k := Int.pow_pos (by decide)
  refine ⟨Int.mul_nonneg (by omega) (by omega), fun _ => Int.mul_le_mul_of_nonneg_right (by omega) (by omega), ?_⟩
  rcases hk with hk | ⟨rfl, h1⟩
  · have h2 : c % 128 * 128 ^ k ≤ 128 * 128 ^ k := Int.mul_le_mul_of_nonneg_right (by omega) (by omega)
    have h3 := mono128 (show k + 1 ≤ 9 by omega)
    rw [Int.pow_succ] at h3
    have h4 : (128 : Int) ^ 9 = 9223372036854775808 := by decide
    omega
  · have h4 : (128 : Int) ^ 9 = 9223372036854775808 := by decide
    rw [h4]; omega
theorem acc_num {x c : Int} {k : Nat} (hx0 : 0 ≤ x) (hx1 : x < 128 ^ k) (h0 : 0 ≤ c) (h1 : c < 256) (hk : k < 9 ∨ (k = 9 ∧ c ≤ 1)) :
    bits .or .u64 x (IntKind.u64.wrap (IntKind.u64.wrap (bits .and .u8 c 127) * 2 ^ (7 * k))) = x + c % 128 * 128 ^ k := by
  obtain ⟨b0, _, b2⟩ := acc_bd h0 hk
  rw [and_u8_127 h0 h1, two128, IntKind.wrap_u64, IntKind.wrap_u64, Int.emod_eq_of_lt (show 0 ≤ c % 128 by omega) (by omega), Int.emod_eq_of_lt b0 (by omega)]
  have hP : (128 : Int) ^ k ≤ 9223372036854775808 := by
    have h3 := mono128 (show k ≤ 9 by omega)
    have h4 : (128 : Int) ^ 9 = 9223372036854775808 := by decide
    omega
  rw [u64_or _ _ hx0 (by omega) b0 (by omega)]
  have hd : 0 ≤ c % 128 := by omega
  generalize c % 128 = d at *
  obtain ⟨xn, rfl⟩ := Int.eq_ofNat_of_zero_le hx0
  obtain ⟨dn, rfl⟩ := Int.eq_ofNat_of_zero_le hd
  rw [nat128] at hx1 ⊢
  rw [Int.toNat_natCast, ← Int.natCast_mul, Int.toNat_natCast, Nat.mul_comm, or_above _ _ _ (by exact_mod_cast hx1)]
  simp
theorem acc_lt {x c : Int} {k : Nat} (hx1 : x < 128 ^ k) (h0 : 0 ≤ c) (hk : k < 9) : x + c % 128 * 128 ^ k < 128 ^ (k + 1) := by
  have := (acc_bd h0 (.inl hk)).2.1 hk
  rw [Int.pow_succ]; omega
theorem acc_top {x c : Int} {k : Nat} (hx1 : x < 128 ^ k) (h0 : 0 ≤ c) (hk : k < 9 ∨ (k = 9 ∧ c ≤ 1)) : x + c % 128 * 128 ^ k < 18446744073709551616 := by
  have h2 := (acc_bd h0 hk).2.2
  have h3 := mono128 (show k ≤ 9 by omega)
  have h4 : (128 : Int) ^ 9 = 9223372036854775808 := by decide
  omega

/-- a number of both signs, taken: from the k-th byte on, x what came so far -/
def rdNumFrom (k : Nat) (x : Int) (bs : List Int) (e : Int) : Int × List Int × Int :=
  if 10 ≤ k then (0, [], 3) else
  if e ≠ 0 then (0, bs, e) else
  match bs with
  | [] => (0, [], 2)
  | c :: r =>
    if (k = 9 ∧ 1 < c) ∨ (0 < k ∧ c = 0) then (0, [], 3) else
    if c < 128 then ((if (x + c * 128 ^ k) % 2 = 0 then (x + c * 128 ^ k) / 2 else -((x + c * 128 ^ k) / 2) - 1), r, e)
    else rdNumFrom (k + 1) (x + c % 128 * 128 ^ k) r e
termination_by 10 - k
theorem rdNumFrom_ten {k : Nat} {x : Int} {bs : List Int} {e : Int} (h : 10 ≤ k) : rdNumFrom k x bs e = (0, [], 3) := by
  unfold rdNumFrom; rw [if_pos h]
theorem rdNumFrom_err {k : Nat} {x : Int} {bs : List Int} {e : Int} (h : k < 10) (he : e ≠ 0) : rdNumFrom k x bs e = (0, bs, e) := by
  unfold rdNumFrom; rw [if_neg (by omega), if_pos he]
theorem rdNumFrom_nil {k : Nat} {x : Int} (h : k < 10) : rdNumFrom k x [] 0 = (0, [], 2) := by
  unfold rdNumFrom; rw [if_neg (by omega), if_neg (by simp)]
theorem rdNumFrom_bad {k : Nat} {x c : Int} {r : List Int} (h : k < 10) (hb : (k = 9 ∧ 1 < c) ∨ (0 < k ∧ c = 0)) : rdNumFrom k x (c :: r) 0 = (0, [], 3) := by
  unfold rdNumFrom; rw [if_neg (by omega), if_neg (by simp)]; simp only; rw [if_pos hb]
theorem rdNumFrom_last {k : Nat} {x c : Int} {r : List Int} (h : k < 10) (hb : ¬ ((k = 9 ∧ 1 < c) ∨ (0 < k ∧ c = 0))) (h8 : c < 128) :
    rdNumFrom k x (c :: r) 0 = ((if (x + c * 128 ^ k) % 2 = 0 then (x + c * 128 ^ k) / 2 else -((x + c * 128 ^ k) / 2) - 1), r, 0) := by
  conv => lhs; unfold rdNumFrom
  rw [if_neg (by omega), if_neg (by simp)]; simp only; rw [if_neg hb, if_pos h8]
theorem rdNumFrom_more {k : Nat} {x c : Int} {r : List Int} (h : k < 10) (hb : ¬ ((k = 9 ∧ 1 < c) ∨ (0 < k ∧ c = 0))) (h8 : ¬ c < 128) :
    rdNumFrom k x (c :: r) 0 = rdNumFrom (k + 1) (x + c % 128 * 128 ^ k) r 0 := by
  conv => lhs; unfold rdNumFrom
  rw [if_neg (by omega), if_neg (by simp)]; simp only; rw [if_neg hb, if_neg h8]
def rdNum (bs : List Int) (e : Int) : Int × List Int × Int := rdNumFrom 0 0 bs e

theorem rdNumFrom_bytes (d : Nat) : ∀ (k : Nat) (x : Int) (bs : List Int) (e : Int), 10 - k = d → Bytes bs → Bytes (rdNumFrom k x bs e).2.1 := by
  have hn : Bytes [] := fun x hx => by simp at hx
  induction d with
  | zero => intro k x bs e hd hb; rw [rdNumFrom_ten (by omega)]; exact hn
  | succ d ih =>
    intro k x bs e hd hb
    have hk : k < 10 := by omega
    by_cases he : e = 0
    · subst he
      cases bs with
      | nil => rw [rdNumFrom_nil hk]; exact hn
      | cons c r =>
        have hr : Bytes r := fun x hx => hb x (by simp [hx])
        by_cases h1 : (k = 9 ∧ 1 < c) ∨ (0 < k ∧ c = 0)
        · rw [rdNumFrom_bad hk h1]; exact hn
        · by_cases h2 : c < 128
          · rw [rdNumFrom_last hk h1 h2]; exact hr
          · rw [rdNumFrom_more hk h1 h2]; exact ih _ _ _ _ (by omega) hr
    · rw [rdNumFrom_err hk he]; exact hb
theorem rdNum_bytes {bs : List Int} {e : Int} (h : Bytes bs) : Bytes (rdNum bs e).2.1 := rdNumFrom_bytes 10 0 0 bs e rfl h

/-- bytes, taken -/
def rdBytes (bs : List Int) (e : Int) : List Int × List Int × Int :=
  if (rdNum bs e).1 < 0 ∨ 16777216 < (rdNum bs e).1 then ([], [], 3) else tk (rdNum bs e).1.toNat (rdNum bs e).2.1 (rdNum bs e).2.2

/-- a digest, taken -/
def rdHash (bs : List Int) (e : Int) : List Int × List Int × Int :=
  ((tk 32 bs e).1 ++ List.replicate (32 - (tk 32 bs e).1.length) 0, (tk 32 bs e).2)
theorem tk_all_or (n : Nat) (bs : List Int) (e : Int) : (tk n bs e).1 = [] ∨ (tk n bs e).1.length = n := by
  unfold tk
  split
  · exact .inl rfl
  · split
    · exact .inl rfl
    · right; simp; omega
end Go.Oct
