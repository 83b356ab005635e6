/-
  The document's numbers as bytes: the same rows of bytes.
-/
import Derived.Test.YtdgalljalcediaaFOct4
namespace Go.Proofs.Ytdgalljalcediaa
open Go.RowKit Go.Sep Go.Oct

/-- a row of bytes of the call's own is handed back -/
def GivesB (W0 : World) (L : List Asn) (bs : List Int) (e : Ending) (w' : World) : Prop := ∃ ao cap, e = .returned (.slice ao bs.length cap) ∧ Sat W0 w' (sbs ao bs.length cap bs :: L)

theorem sbs_snoc {W0 w : World} {L : List Asn} {ao : Option Addr} {cap : Nat} {ys : List Int} {y : Int} (S : Sat W0 w (slc 5 1 ao (ys.length + 1) cap (bv ys ++ [.int .u8 y]) :: L)) : Sat W0 w (sbs ao (ys ++ [y]).length cap (ys ++ [y]) :: L) := by
  unfold sbs
  rw [bv_append, List.length_append]
  exact S
theorem and127_u64 {x : Int} (h0 : 0 ≤ x) (h1 : x < 18446744073709551616) : bits .and .u64 x 127 = x % 128 := by
  rw [u64_and _ _ h0 h1 (by omega) (by omega)]
  obtain ⟨n, rfl⟩ := Int.eq_ofNat_of_zero_le h0
  rw [Int.toNat_natCast, show (127 : Int).toNat = 2 ^ 7 - 1 from rfl, Nat.and_two_pow_sub_one_eq_mod]
  simp
theorem or128_128 (x : Int) : bits .or .u8 (x % 128) 128 = x % 128 + 128 := by
  have h := or128 (x % 128)
  rw [show x % 128 % 256 = x % 128 by omega, show x % 128 % 128 = x % 128 by omega] at h
  exact h

set_option maxRecDepth 100000 in
theorem refNum_any {W0 w : World} {L : List Asn} (S : Sat W0 w L) (v : Int) (h0 : -9223372036854775808 ≤ v) (h1 : v < 9223372036854775808) :
    Calls Try.prog 44 #[.int .i64 v] w (GivesB W0 L (num v)) := by
  obtain ⟨i0, hi, hz0, hz1, hz2⟩ := info_parts Try.infoB
  by_cases hv : 0 ≤ v
  all_goals
    go_enter Try.func44, Try.ntmps44
    go_wp2_with fail
    first | rw [show 2 * v = zig v by unfold zig; rw [if_pos hv]] | rw [show 2 * -(v + 1) + 1 = zig v by unfold zig; rw [if_neg (by omega)]; omega]
    go_loopw [3, 4] (fun u b wr => ∃ n x ao cap ys, u = .int .u64 x ∧ b = .slice ao ys.length cap ∧ Sat W0 wr (sbs ao ys.length cap ys :: L) ∧ Hid (ys ++ digs n x = num v) ∧ 0 ≤ x ∧ x < 18446744073709551616 ∧ Hid (x < 128 ^ (n + 1)) ∧ ys.length + n ≤ 9) (fun u _ _ => (intOf u).toNat)
    case atStart => exact ⟨9, zig v, none, 0, [], rfl, rfl, Sat.own_none.2 ⟨rfl, rfl, rfl, S⟩, rfl, zig_lo v, zig_hi h0 h1, by have := zig_hi h0 h1; show zig v < 1180591620717411303424; omega, by simp⟩
    case round =>
      obtain ⟨n, x, ao, cap, ys, rfl, rfl, S1, he, hx0, hx1, hxn, hyl⟩ := hrel
      by_cases h128 : 128 ≤ x
      · have hbits := and127_u64 hx0 hx1
        go_wp2_with (at_builtin; rw [or128_128]; refine wpList_append_sat rfl _ _ _ rfl 5 i0 (.int .u8 0) 1 1 Try.underlying29 hi hz0 hz1 hz2 rfl (by decide) (S1.alloc [.int .u8 (x % 128 + 128)] 5).swap rfl rfl (Rd.lit (heap_alloc_new wr _)) rfl (bv_one [_]) (by unfold maxLen; omega) (by omega) ?_; intro ao1 cap1 w1 S2)
        cases n with
        | zero => exact absurd hxn.out (by show ¬ x < 128; omega)
        | succ n =>
          have hyl' : (ys ++ [x % 128 + 128]).length + n ≤ 9 := by simp; omega
          have he' : Hid ((ys ++ [x % 128 + 128]) ++ digs n (x / 128) = num v) := by have := he.out; rw [digs_ge n h128] at this; show _ = _; rw [← this]; simp
          have hxn' : Hid (x / 128 < 128 ^ (n + 1)) := pow_step hxn.out
          go_roundw
          case rel => exact ⟨n, x / 128, ao1, cap1, ys ++ [x % 128 + 128], rfl, by simp, sbs_snoc S2.swap.tail, he', by omega, by omega, hxn', hyl'⟩
          case measure => simp [intOf]; omega
      · go_wp2_with (at_builtin; refine wpList_append_sat rfl _ _ _ rfl 5 i0 (.int .u8 0) 1 1 Try.underlying29 hi hz0 hz1 hz2 rfl (by decide) (S1.alloc [.int .u8 x] 5).swap rfl rfl (Rd.lit (heap_alloc_new wr _)) rfl (bv_one [_]) (by unfold maxLen; omega) (by omega) ?_; intro ao1 cap1 w1 S2)
        go_ret
        refine ⟨ao1, cap1, ?_, ?_⟩
        · rw [← he.out, digs_lt n (by omega)]; simp
        · rw [← he.out, digs_lt n (by omega)]; exact sbs_snoc S2.swap.tail

set_option maxRecDepth 100000 in
theorem refFour_any {W0 w : World} {L : List Asn} (S : Sat W0 w L) (v : Int) (h0 : 0 ≤ v) (h1 : v < 4294967296) :
    Calls Try.prog 59 #[.int .u32 v] w (GivesB W0 L [v % 256, v / 256 % 256, v / 65536 % 256, v / 16777216]) := by
  have S1 := Sat.sbs_new (cap := 4) (bs := [v % 256, v / 256 % 256, v / 65536 % 256, v / 16777216]) (post := []) (S.alloc (bv [v % 256, v / 256 % 256, v / 65536 % 256, v / 16777216]) 5) rfl (Nat.le_refl _) (by unfold maxLen; omega) (by simp)
  go_enter Try.func59, Try.ntmps59
  go_wp2_with fail
  go_ret
  exact ⟨_, _, rfl, S1⟩

set_option maxRecDepth 100000 in
theorem refBytes_any {W0 w : World} {L : List Asn} (S : Sat W0 w L) {a : Option Addr} {m c : Nat} {xs : List Int} (hR : ∀ w', Sat W0 w' L → Rd w' a (bv xs)) (hm : xs.length = m) (hb : m ≤ 1000000000000) :
    Calls Try.prog 45 #[.slice a m c] w (GivesB W0 L (num xs.length ++ xs)) := by
  obtain ⟨i0, hi, hz0, hz1, hz2⟩ := info_parts Try.infoB
  have hl := num_length m
  have HM := Lib.hid hm
  clear hm
  go_enter Try.func45, Try.ntmps45
  go_wp2_with (first
    | (go_at_call 44; refine (refNum_any S m (by omega) (by omega)).mono ?_; rintro e w1 ⟨ao, cap, rfl, S1⟩; have hR1 := hR _ S1.tail)
    | (at_builtin; refine wpList_append_sat rfl _ _ _ rfl 5 i0 (.int .u8 0) 1 1 Try.underlying29 hi hz0 hz1 hz2 rfl (by decide) S1 rfl rfl hR1 (by rw [bv_length, HM.out, Nat.mul_one]) (bv_one _) (by unfold maxLen; omega) (by omega) ?_; intro ao1 cap1 w2 S2))
  go_ret
  refine ⟨ao1, cap1, ?_, ?_⟩
  · rw [HM.out, List.length_append, HM.out]; rfl
  · rw [HM.out, List.length_append, HM.out]
    unfold sbs
    rw [bv_append]
    exact S2
end Go.Proofs.Ytdgalljalcediaa
