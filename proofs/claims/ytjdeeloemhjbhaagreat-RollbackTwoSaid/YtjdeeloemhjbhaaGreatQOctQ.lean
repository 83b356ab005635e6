/-
  octet: what was laid is taken as it was.
-/
import Derived.Test.YtjdeeloemhjbhaaGreatQOctP

namespace Go.Oct
open Go.RowKit

theorem unzig {v z : Int} (h : z = zig v) : (if z % 2 = 0 then z / 2 else -(z / 2) - 1) = v := by
  subst h
  unfold zig
  split <;> split <;> omega

theorem rd_digs (r : List Int) : ∀ (n k : Nat) (x y z : Int), n + k = 9 → 0 ≤ y → y < 128 ^ (n + 1) → (0 < k → 0 < y) → x + y * 128 ^ k = z → 0 ≤ x → z < 18446744073709551616 →
    rdNumFrom k x (digs n y ++ r) 0 = ((if z % 2 = 0 then z / 2 else -(z / 2) - 1), r, 0)
  | n, k, x, y, z, hn, h0, h1, hk, hz, hx, hz2 => by
    by_cases h8 : y < 128
    · rw [digs_lt n h8]
      have hbad : ¬ ((k = 9 ∧ 1 < y) ∨ (0 < k ∧ y = 0)) := by
        rintro (⟨rfl, h⟩ | ⟨h, h'⟩)
        · have h2 : (128 : Int) ^ 9 = 9223372036854775808 := by decide
          rw [h2] at hz
          omega
        · have := hk h; omega
      rw [List.cons_append, List.nil_append, rdNumFrom_last (by omega) hbad h8, hz]
    · cases n with
      | zero => exact absurd h1 (by show ¬ y < 128; exact h8)
      | succ n =>
        rw [digs_ge n (by omega), List.cons_append]
        have hbad : ¬ ((k = 9 ∧ 1 < y % 128 + 128) ∨ (0 < k ∧ y % 128 + 128 = 0)) := by omega
        rw [rdNumFrom_more (by omega) hbad (by omega)]
        have hp : (0 : Int) < 128 ^ k := Int.pow_pos (by decide)
        refine rd_digs r n (k + 1) _ (y / 128) z (by omega) (by omega) (pow_step h1) (by omega) ?_ ?_ hz2
        · have e1 : (y % 128 + 128) % 128 = y % 128 := by omega
          rw [e1, Int.pow_succ, ← hz]
          have e2 : y / 128 * (128 ^ k * 128) = (y / 128 * 128) * 128 ^ k := by rw [Int.mul_comm ((128 : Int) ^ k) 128, Int.mul_assoc]
          rw [e2, Int.add_assoc, ← Int.add_mul]
          congr 2
          omega
        · have : 0 ≤ (y % 128 + 128) % 128 * 128 ^ k := Int.mul_nonneg (by omega) (by omega)
          omega

theorem rdNum_num {v : Int} (h0 : -9223372036854775808 ≤ v) (h1 : v < 9223372036854775808) (r : List Int) : rdNum (num v ++ r) 0 = (v, r, 0) := by
  unfold rdNum num
  rw [rd_digs r 9 0 0 (zig v) (zig v) rfl (zig_lo v) (by have := zig_hi h0 h1; show zig v < 1180591620717411303424; omega) (by omega) (by simp) (by omega) (zig_hi h0 h1), unzig rfl]

theorem digs_bytes : ∀ (n : Nat) {x : Int}, 0 ≤ x → x < 128 ^ (n + 1) → Bytes (digs n x)
  | 0, x, h0, h1 => by
    have h1' : x < 128 := h1
    intro y hy
    simp [digs] at hy
    omega
  | n + 1, x, h0, h1 => by
    by_cases h : 128 ≤ x
    · rw [digs_ge n h]
      have := digs_bytes n (x := x / 128) (by omega) (pow_step h1)
      intro y hy
      rcases List.mem_cons.1 hy with rfl | hy
      · omega
      · exact this y hy
    · rw [digs_lt _ (by omega)]
      intro y hy
      simp at hy
      omega
theorem num_bytes {v : Int} (h0 : -9223372036854775808 ≤ v) (h1 : v < 9223372036854775808) : Bytes (num v) :=
  digs_bytes 9 (zig_lo v) (by have := zig_hi h0 h1; show zig v < 1180591620717411303424; omega)
end Go.Oct
