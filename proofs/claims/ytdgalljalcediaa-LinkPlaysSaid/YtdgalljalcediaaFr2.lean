/-
  frame: the document's Encode.
-/
import Derived.Test.YtdgalljalcediaaFr1
import Derived.Test.YtdgalljalcediaaFRef1W
import Derived.Test.YtdgalljalcediaaFRef1S
namespace Go.Proofs.Ytdgalljalcediaa
open Go.RowKit Go.Sep Go.Oct
set_option linter.unusedSimpArgs false

def Encoded (W0 : World) (L : List Asn) (r : List Int × Int) (e : Ending) (w' : World) : Prop := ∃ ao cap, e = .returned (.tuple #[.slice ao r.1.length cap, .int .i64 r.2]) ∧ Sat W0 w' (sbs ao r.1.length cap r.1 :: L)

theorem r1four4_any {W0 w : World} {L : List Asn} (S : Sat W0 w L) (v : Int) (h0 : 0 ≤ v) (h1 : v < 4294967296) :
    Calls Try.prog 59 #[.int .u32 v] w fun e w' => ∃ ao cap, e = .returned (.slice ao 4 cap) ∧ Sat W0 w' (sbs ao 4 cap (four4 v) :: L) :=
  refFour_any S v h0 h1

set_option maxRecDepth 100000 in
set_option maxHeartbeats 1600000 in
theorem r4Encode_any {W0 w : World} {L : List Asn} (S : Sat W0 w L) {a : Option Addr} {m c : Nat} {xs : List Int} (hR : ∀ w', Sat W0 w' L → Rd w' a (bv xs)) (hm : xs.length = m) (hB : Bytes xs) (hb : m ≤ 1000000000) :
    Calls Try.prog 46 #[.slice a m c] w (Encoded W0 L (encF xs)) := by
  obtain ⟨i0, hi, hz0, hz1, hz2⟩ := info_parts Try.infoB
  by_cases hbig : 65536 < m
  · have he : encF xs = ([], 5) := by unfold encF; rw [if_pos (by omega)]
    rw [he]
    go_enter Try.func46, Try.ntmps46
    go_wp2_with fail
    go_ret2
    exact ⟨none, 0, rfl, Sat.own_none.2 ⟨rfl, rfl, rfl, S⟩⟩
  · have he : encF xs = (recP xs, 0) := by unfold encF; rw [if_neg (by omega)]
    rw [he]
    have HM := Lib.hid hm
    have HR := Lib.hid hR
    have h65 : decide ((65536 : Int) < (m : Int)) = false := decide_eq_false (by omega)
    have hm0 : (0 : Int) ≤ (m : Int) ∧ (m : Int) < 4294967296 := by omega
    have hf4 : (four4 (m : Int)).length = 4 := rfl
    have hf4b : Bytes (four4 (m : Int)) := four4_bytes hm0.1 hm0.2
    have hc1 := crc_bd (four4 (m : Int))
    have HRP : Hid (recP xs = headP (m : Int) ++ xs ++ crcB (headP (m : Int) ++ xs)) := by show recP xs = _; unfold recP; rw [HM.out]
    have hbb : Bytes (headP (m : Int) ++ xs) := (headP_bytes (by omega) (by omega)).append hB
    have hhd : headP (m : Int) = four4 (m : Int) ++ crcB (four4 (m : Int)) := rfl
    unfold crcB at hhd
    obtain ⟨c1, hc1e⟩ : ∃ c1 : Int, (crc (four4 (m : Int)) : Int) = c1 := ⟨_, rfl⟩
    rw [hc1e] at hc1 hhd
    have HC1 := Lib.hid hc1e
    have HHD := Lib.hid hhd
    have hrp := HRP.out
    rw [hhd] at hrp hbb
    have hc2 := crc_bd (four4 (m : Int) ++ four4 c1 ++ xs)
    obtain ⟨c2, hc2e⟩ : ∃ c2 : Int, (crc (four4 (m : Int) ++ four4 c1 ++ xs) : Int) = c2 := ⟨_, rfl⟩
    have HRP2 : Hid (recP xs = four4 (m : Int) ++ four4 c1 ++ xs ++ four4 c2) := by
      show _ = _
      rw [hrp]
      unfold crcB
      rw [hc2e]
    rw [hc2e] at hc2
    have HC2 := Lib.hid hc2e
    have HB6 := Lib.hid hbb
    have HL6 : Hid ((four4 (m : Int) ++ four4 c1 ++ xs).length = 8 + m) := by show _ = _; rw [List.length_append, List.length_append, HM.out]; rfl
    have hf4'' : (four4 c2).length = 4 := rfl
    clear hbb HRP hrp hc2e
    have hf4' : (four4 c1).length = 4 := rfl
    clear hc1e hhd
    clear hm hR he
    go_enter Try.func46, Try.ntmps46
    go_wp2_with (first
      | (go_at_call 59; refine (r1four4_any S6 _ hc2.1 hc2.2).mono ?_; rintro e w8 ⟨ao8, cap8, rfl, S8⟩; have S8r := S8.own_rd)
      | (go_at_call 59; refine (r1four4_any S2 _ hc1.1 hc1.2).mono ?_; rintro e w4 ⟨ao4, cap4, rfl, S4⟩; have S4r := S4.own_rd)
      | (go_at_call 59; refine (r1four4_any S (m : Int) hm0.1 hm0.2).mono ?_; rintro e w2 ⟨ao, cap, rfl, S2⟩; have S2r := S2.own_rd)
      | (go_at_call 60; refine (refSum_any (m := 8 + m) (xs := four4 (m : Int) ++ four4 c1 ++ xs) S6r HL6.out HB6.out (by omega)).mono ?_; rintro e w7 ⟨rfl, rfl⟩; rw [HC2.out])
      | (go_at_call 60; refine (refSum_any (m := 4) (xs := four4 (m : Int)) S2r rfl hf4b (by omega)).mono ?_; rintro e w3 ⟨rfl, rfl⟩; rw [HC1.out])
      | (at_builtin; refine wpList_append_sat rfl (.tmp 12) (.tmp 15) _ rfl 5 i0 (.int .u8 0) 1 1 Try.underlying29 hi hz0 hz1 hz2 rfl (by decide) S4.swap rfl rfl S4r (by rw [bv_length, hf4']) (bv_one _) (by unfold maxLen; omega) (by omega) ?_; intro ao5 cap5 w5 S5; rw [← bv_append] at S5)
      | (at_builtin; refine wpList_append_sat rfl (.tmp 17) (.tmp 18) _ rfl 5 i0 (.int .u8 0) 1 1 Try.underlying29 hi hz0 hz1 hz2 rfl (by decide) S5 rfl rfl (HR.out _ S5.tail.tail) (by rw [bv_length, HM.out, Nat.mul_one]) (bv_one _) (by unfold maxLen; omega) (by omega) ?_; intro ao6 cap6 w6 S6; rw [← bv_append] at S6; have S6r := S6.own_rd)
      | (at_builtin; refine wpList_append_sat rfl (.tmp 20) (.tmp 23) _ rfl 5 i0 (.int .u8 0) 1 1 Try.underlying29 hi hz0 hz1 hz2 rfl (by decide) S8.swap rfl rfl S8r (by rw [bv_length, hf4'']) (bv_one _) (by unfold maxLen; omega) (by omega) ?_; intro ao9 cap9 w9 S9; rw [← bv_append] at S9))
    go_ret2
    have hl := recP_length xs
    rw [HM.out] at hl
    refine ⟨ao9, cap9, ?_, ?_⟩
    · show Ending.returned (.tuple #[.slice ao9 (8 + m + 4) cap9, .int .i64 0]) = Ending.returned (.tuple #[.slice ao9 (recP xs).length cap9, .int .i64 0])
      rw [hl, show m + 12 = 8 + m + 4 by omega]
    · show Sat W0 _ (slc 5 1 ao9 (recP xs).length cap9 (bv (recP xs)) :: L)
      rw [hl, HRP2.out, show m + 12 = 8 + m + 4 by omega]
      exact (S9.sel [1]).tail.swap.tail
end Go.Proofs.Ytdgalljalcediaa
