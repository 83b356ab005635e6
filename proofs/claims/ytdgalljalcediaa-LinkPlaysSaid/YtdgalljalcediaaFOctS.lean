/-
  octet: the check sum.
-/
import Derived.Test.YtdgalljalcediaaFOct2
import Derived.Test.YtdgalljalcediaaCrcP
namespace Go.Proofs.Ytdgalljalcediaa
open Go.RowKit Go.Sep Go.Oct

set_option maxRecDepth 100000 in
theorem sum_any {w : World} {a : Option Addr} {m c : Nat} {xs : List Int} (hR : Rd w a (bv xs)) (hm : xs.length = m) (hB : Bytes xs) (hb : m ≤ 1099511627776) :
    Calls Try.prog 64 #[.slice a m c] w fun e w' => e = .returned (.int .u32 (crc xs)) ∧ w = w' := by
  subst hm
  go_enter Try.func64, Try.ntmps64
  go_wp2_with fail
  go_loop [3, 8] (fun v i => ∃ k : Nat, ∃ y : Nat, k ≤ xs.length ∧ i = .int .i64 k ∧ v = .int .u32 y ∧ y < 4294967296 ∧ Hid (y = crcFold 4294967295 (xs.take k))) (fun _ i => xs.length - (intOf i).toNat)
  case atStart => exact ⟨0, 4294967295, by omega, rfl, rfl, by omega, rfl⟩
  case round =>
    obtain ⟨k, y, hk, rfl, rfl, hy, HY⟩ := hrel
    by_cases hlt : k < xs.length
    · obtain ⟨x, hxk⟩ := at_some hlt
      obtain ⟨b, off, rfl, hc⟩ := hR k _ (cell_some hxk)
      have hx := hB.some hxk
      have HXK := Lib.hid hxk
      clear hxk hR
      go_wp2
      rw [xor_u32 hy hx.1 hx.2]
      have hz : y ^^^ x.toNat < 4294967296 := Nat.xor_lt_two_pow (n := 32) hy (by omega)
      obtain ⟨z, hzz⟩ : ∃ z, z = y ^^^ x.toNat := ⟨_, rfl⟩
      rw [← hzz] at hz ⊢
      have HZ := Lib.hid hzz
      clear hzz
      go_loop [3, 16] (fun v i => ∃ j : Nat, ∃ u : Nat, j ≤ 8 ∧ i = .int .i64 j ∧ v = .int .u32 u ∧ u < 4294967296 ∧ Hid (crcBits (8 - j) u = crcBits 8 z)) (fun _ i => 8 - (intOf i).toNat)
      case atStart => exact ⟨0, z, by omega, rfl, rfl, hz, rfl⟩
      case round =>
        obtain ⟨j, u, hj, rfl, rfl, hu, HU⟩ := hrel
        by_cases hj8 : j < 8
        · go_wp2
          rw [crc_step hu]
          have hu' := crcBit_lt hu
          have HU' : Hid (crcBits (8 - (j + 1)) (crcBit u) = crcBits 8 z) := by show _ = _; rw [← HU.out, show 8 - j = (8 - (j + 1)) + 1 by omega]; rfl
          go_round
          case rel => exact ⟨j + 1, crcBit u, by omega, by go_num, rfl, hu', HU'⟩
          case measure => simp [intOf]; omega
        · go_wp2
          have HY' : Hid (u = crcFold 4294967295 (xs.take (k + 1))) := by
            show _ = _
            have h8 : crcBits (8 - j) u = u := by rw [show 8 - j = 0 by omega]; rfl
            rw [List.take_add_one, HXK.out, Option.toList_some, crcFold_snoc, ← HY.out, crcByte, ← HZ.out, ← HU.out, h8]
          go_round
          case rel => exact ⟨k + 1, u, by omega, by go_num, rfl, hu, HY'⟩
          case measure => simp [intOf]; omega
    · go_wp2
      go_ret
      rw [crc_not hy]
      refine ⟨?_, rfl⟩
      rw [HY.out, List.take_of_length_le (by omega)]
      rfl
end Go.Proofs.Ytdgalljalcediaa
