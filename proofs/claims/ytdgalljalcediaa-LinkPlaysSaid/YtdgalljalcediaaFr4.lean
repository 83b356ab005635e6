/-
  frame: Decode.
-/
import Derived.Test.YtdgalljalcediaaFr3
namespace Go.Proofs.Ytdgalljalcediaa
open Go.RowKit Go.Sep Go.Oct
set_option linter.unusedSimpArgs false

def Decoded (W0 : World) (L : List Asn) (r : List Int × Int × Int) (e : Ending) (w' : World) : Prop := ∃ ao cap, e = .returned (.tuple #[.slice ao r.1.length cap, .int .i64 r.2.1, .int .i64 r.2.2]) ∧ Sat W0 w' (sbs ao r.1.length cap r.1 :: L)
theorem Decoded.bad {W0 : World} {L : List Asn} {n er : Int} {w' : World} (S : Sat W0 w' L) : Decoded W0 L ([], n, er) (.returned (.tuple #[.slice none 0 0, .int .i64 n, .int .i64 er])) w' := ⟨none, 0, rfl, Sat.own_none.2 ⟨rfl, rfl, rfl, S⟩⟩
theorem rd_sub {w : World} {b off : Nat} {xs : List Int} (h : Rd w (some ⟨b, off, none⟩) (bv xs)) (i n : Nat) : Rd w (some ⟨b, off + i, none⟩) (bv ((xs.drop i).take n)) := by
  have h1 := (h.drop i).take n
  unfold bv at h1 ⊢
  rwa [← List.map_drop, ← List.map_take] at h1
theorem rd_head {w : World} {b off : Nat} {xs : List Int} (h : Rd w (some ⟨b, off, none⟩) (bv xs)) (n : Nat) : Rd w (some ⟨b, off, none⟩) (bv (xs.take n)) := by
  have h1 := h.take n
  unfold bv at h1 ⊢
  rwa [← List.map_take] at h1

set_option maxRecDepth 100000 in
set_option maxHeartbeats 3200000 in
theorem fDecode_any {W0 w : World} {L : List Asn} (S : Sat W0 w L) {a : Option Addr} {m c : Nat} {xs : List Int} (hR : ∀ w', Sat W0 w' L → Rd w' a (bv xs)) (hm : xs.length = m) (hB : Bytes xs) (hmc : m ≤ c) (hb : m ≤ 1000000000) :
    Calls Try.prog 47 #[.slice a m c] w (Decoded W0 L (decF xs)) := by
  by_cases h8 : m < 8
  · have hd : decF xs = ([], 0, 2) := by unfold decF; rw [if_pos (by omega)]
    rw [hd]
    have h8' : decide ((m : Int) < 8) = true := decide_eq_true (by omega)
    clear hd
    go_enter Try.func47, Try.ntmps47
    go_wp2_with fail
    go_ret3
    exact Decoded.bad S
  obtain ⟨x, hx⟩ : ∃ x, xs[0]? = some x := ⟨xs[0], List.getElem?_eq_getElem (by omega)⟩
  obtain ⟨b, off, rfl, _⟩ := hR w S 0 (.int .u8 x) (cell_some hx)
  have h8' : decide ((m : Int) < 8) = false := decide_eq_false (by omega)
  have HM := Lib.hid hm
  have HR := Lib.hid hR
  have hB4 : Bytes (xs.take 4) := hB.take 4
  have hl4 : (xs.take 4).length = 4 := by rw [List.length_take]; omega
  have hn0 : 0 ≤ le (xs.take 4) := le_lo hB4
  have hn1 : le (xs.take 4) < 4294967296 := by have := le_hi hB4; rw [hl4] at this; exact this
  have htk : tk 4 (xs.take 8) 0 = (xs.take 4, (xs.take 8).drop 4, 0) := by rw [tk_ge (by rw [List.length_take]; omega), List.take_take]; rfl
  have HB := Lib.hid hB
  have HLT : Hid (le (tk 4 (xs.take 8) 0).1 = le (xs.take 4)) := by show le _ = _; rw [htk]
  have h8c : 8 ≤ c := by omega
  have h8c2 : (8 : Int) ≤ (c : Int) := by omega
  have h8l : (xs.take 8).length = 8 := by rw [List.length_take]; omega
  have HD : Hid (decF xs = if xs.take 8 ≠ headP (le (xs.take 4)) then ([], 0, 4)
      else if 65536 < le (xs.take 4) then ([], 0, 5)
      else if xs.length < 12 + (le (xs.take 4)).toNat then ([], 0, 2)
      else if le ((xs.drop (8 + (le (xs.take 4)).toNat)).take 4) ≠ crc (xs.take (8 + (le (xs.take 4)).toNat)) then ([], 0, 4)
      else ((xs.drop 8).take (le (xs.take 4)).toNat, 12 + le (xs.take 4), 0)) := by show decF xs = _; unfold decF; rw [if_neg (by omega)]
  rw [HM.out] at HD
  generalize decF xs = D at HD ⊢
  generalize le (xs.take 4) = n at *
  clear hm hR hx hB htk hl4 hB4
  go_enter Try.func47, Try.ntmps47
  go_wp2_with (first
    | (go_at_call 48; refine (newReader_any (m := 8) S (rd_head (HR.out _ S) 8) h8l (by simp) (by omega)).mono ?_; rintro e w2 ⟨p, rfl, S2⟩)
    | (go_at_call 61; refine (rFour_any S2 (HB.out.take 8)).mono ?_; rw [HLT.out]; rintro e w3 ⟨rfl, S3⟩))
  have S3d := S3.drew
  go_cut [15] (fun v wx => v = .bool (!decide (xs.take 8 = headP n)) ∧ Sat W0 wx L)
  case first =>
    refine wp_region_drawn (N := 7) (LN := #[false, false, false, false, false, false, false]) (by kernel_rfl) (by kernel_rfl) (by kernel_rfl) ?_
    refine wpAny_loc (i := 0) (v := ?_) (LN := #[true, false, false, false, false, false, false]) rfl (by kernel_rfl) (by kernel_rfl) (by kernel_rfl) (fun _ _ _ h => h) (by kernel_rfl) (by rfl) ?_ ?_
    rotate_left
    · intro w; first | (go_simp; done) | (go_simp; with_reducible rfl)
    try simp only [Act.put, List.getElem_toArray, List.getElem_cons_zero, List.getElem_cons_succ, List.setIfInBounds_toArray, List.set_cons_zero, List.set_cons_succ]
    refine wpAny_loc (i := 1) (v := ?_) (LN := #[true, true, false, false, false, false, false]) rfl (by kernel_rfl) (by kernel_rfl) (by kernel_rfl) (fun _ _ _ h => h) (by kernel_rfl) (by rfl) ?_ ?_
    rotate_left
    · intro w; first | (go_simp; done) | (go_simp; with_reducible rfl)
    try simp only [Act.put, List.getElem_toArray, List.getElem_cons_zero, List.getElem_cons_succ, List.setIfInBounds_toArray, List.set_cons_zero, List.set_cons_succ]
    refine wpAny_loc (i := 2) (v := ?_) (LN := #[true, true, true, false, false, false, false]) rfl (by kernel_rfl) (by kernel_rfl) (by kernel_rfl) (fun _ _ _ h => h) (by kernel_rfl) (by rfl) ?_ ?_
    rotate_left
    · intro w; first | (go_simp; done) | (go_simp; with_reducible rfl)
    try simp only [Act.put, List.getElem_toArray, List.getElem_cons_zero, List.getElem_cons_succ, List.setIfInBounds_toArray, List.set_cons_zero, List.set_cons_succ]
    refine wpAny_one (i := 3) (LN := #[true, true, true, true, false, false, false]) (by kernel_rfl) rfl (by kernel_rfl) ?_
    intro K hK
    go_simp
    go_at_call 63
    refine (headOf_any S3d.tail hn0 hn1).mono ?_
    unfold Laid
    rintro e w4 ⟨ao, cap, rfl, S4⟩
    have hl := S4.own_len
    go_wp2_with fail
    refine hK.out _ _ ?_
    clear hK K
    try simp only [Act.put, List.getElem_toArray, List.getElem_cons_zero, List.getElem_cons_succ, List.setIfInBounds_toArray, List.set_cons_zero, List.set_cons_succ]
    refine wpAny_one (i := 4) (LN := #[true, true, true, true, true, false, false]) (by kernel_rfl) rfl (by kernel_rfl) ?_
    intro K hK
    go_simp
    go_at_call 62
    refine (bytesEqual_any (rd_head (HR.out _ S4.tail) 8) S4.own_rd h8l rfl (by simp) (fun h => by have := (hl.2.2.2 h).1; exact this) (HB.out.take 8) (headP_bytes hn0 hn1)).mono ?_
    rintro e w5 ⟨rfl, rfl⟩
    go_wp2_with fail
    refine hK.out _ _ ?_
    clear hK K
    try simp only [Act.put, List.getElem_toArray, List.getElem_cons_zero, List.getElem_cons_succ, List.setIfInBounds_toArray, List.set_cons_zero, List.set_cons_succ]
    refine wpAny_loc (i := 5) (v := ?_) (LN := #[true, true, true, true, true, true, false]) rfl (by kernel_rfl) (by kernel_rfl) (by kernel_rfl) (fun _ _ _ h => h) (by kernel_rfl) (by rfl) ?_ ?_
    rotate_left
    · intro w; first | (go_simp; done) | (go_simp; with_reducible rfl)
    try simp only [Act.put, List.getElem_toArray, List.getElem_cons_zero, List.getElem_cons_succ, List.setIfInBounds_toArray, List.set_cons_zero, List.set_cons_succ]
    refine wpAny_loc (i := 6) (v := ?_) (LN := #[true, true, true, true, true, true, true]) rfl (by kernel_rfl) (by kernel_rfl) (by kernel_rfl) (fun _ _ _ h => h) (by kernel_rfl) (by rfl) ?_ ?_
    rotate_left
    · intro w; first | (go_simp; done) | (go_simp; with_reducible rfl)
    try simp only [Act.put, List.getElem_toArray, List.getElem_cons_zero, List.getElem_cons_succ, List.setIfInBounds_toArray, List.set_cons_zero, List.set_cons_succ]
    refine ⟨by kernel_rfl, ?_⟩
    try simp only [Act.put, List.getElem_toArray, List.getElem_cons_zero, List.getElem_cons_succ, List.setIfInBounds_toArray, List.set_cons_zero, List.set_cons_succ]
    go_wp2_with fail
    go_meet
    exact ⟨rfl, S4.tail⟩
  case rest =>
    obtain ⟨rfl, S6⟩ := hcut
    clear S2 S3 S3d HLT
    by_cases heq : xs.take 8 = headP n
    case neg =>
      have e1 : (!decide (xs.take 8 = headP n)) = true := by simp [heq]
      have hd : D = ([], 0, 4) := by rw [HD.out, if_pos heq]
      have HDx := Lib.hid hd
      rw [e1]
      clear e1 hd HD heq
      go_wp2_with fail
      go_ret3
      rw [HDx.out]
      exact Decoded.bad S6
    have e1 : (!decide (xs.take 8 = headP n)) = false := by simp [heq]
    rw [e1]
    have HD1 := HD.out
    rw [if_neg (by rw [heq]; simp)] at HD1
    clear HD e1 heq
    by_cases h65 : 65536 < n
    · rw [if_pos h65] at HD1
      have HDx := Lib.hid HD1
      have h65' : decide ((65536 : Int) < n) = true := decide_eq_true h65
      clear HD1
      go_wp2_with fail
      go_ret3
      rw [HDx.out]
      exact Decoded.bad S6
    rw [if_neg h65] at HD1
    have h65' : decide ((65536 : Int) < n) = false := decide_eq_false h65
    obtain ⟨k, rfl⟩ : ∃ k : Nat, n = (k : Int) := ⟨n.toNat, by omega⟩
    rw [show (k : Int).toNat = k by omega] at HD1
    have hk : k ≤ 65536 := by omega
    by_cases hln : m < 12 + k
    · rw [if_pos hln] at HD1
      have HDx := Lib.hid HD1
      have hl' : decide ((m : Int) - 8 - 4 < (k : Int)) = true := decide_eq_true (by omega)
      clear HD1 h65
      go_wp2_with fail
      go_ret3
      rw [HDx.out]
      exact Decoded.bad S6
    rw [if_neg hln] at HD1
    have hl' : decide ((m : Int) - 8 - 4 < (k : Int)) = false := decide_eq_false (by omega)
    have hkc : (8 : Int) + (k : Int) ≤ (c : Int) := by omega
    have hkc4 : (8 : Int) + (k : Int) + 4 ≤ (c : Int) := by omega
    have hk0 : (0 : Int) ≤ 8 + (k : Int) := by omega
    have hk00 : (0 : Int) ≤ (k : Int) := Int.natCast_nonneg k
    have HD2 := Lib.hid HD1
    have hbx : Bytes ((xs.drop (8 + k)).take 4) := (HB.out.drop _).take _
    have hlx : ((xs.drop (8 + k)).take 4).length = 4 := by rw [List.length_take, List.length_drop, HM.out]; omega
    have hlw : (xs.take (8 + k)).length = 8 + k := by rw [List.length_take, HM.out]; omega
    have HLT2 : Hid (le (tk 4 ((xs.drop (8 + k)).take 4) 0).1 = le ((xs.drop (8 + k)).take 4)) := by
      show le _ = _
      rw [tk_ge (by omega), List.take_of_length_le (by omega)]
    have hlc : (((xs.drop 8).take k)).length = k := by rw [List.length_take, List.length_drop, HM.out]; omega
    clear HD1 h65 hln
    obtain ⟨v1, hv1⟩ : ∃ v1, le ((xs.drop (8 + k)).take 4) = v1 := ⟨_, rfl⟩
    obtain ⟨v2, hv2⟩ : ∃ v2 : Int, (crc (xs.take (8 + k)) : Int) = v2 := ⟨_, rfl⟩
    rw [hv1] at HD2 HLT2
    rw [hv2] at HD2
    have HV2 := Lib.hid hv2
    clear hv1 hv2
    have HRS := HR.out
    by_cases hne : v1 = v2
    · subst hne
      have HD3 : Hid (D = ((xs.drop 8).take k, 12 + (k : Int), 0)) := by show D = _; rw [HD2.out, if_neg (by simp)]
      clear HD2
      go_wp2_with (first
        | (go_at_call 48; refine (newReader_any (m := 4) S6 (rd_sub (HR.out _ S6) (8 + k) 4) hlx (by simp) (by omega)).mono ?_; rintro e w7 ⟨p, rfl, S7⟩)
        | (go_at_call 61; refine (rFour_any S7 hbx).mono ?_; rw [HLT2.out]; rintro e w8 ⟨rfl, S8⟩)
        | (go_at_call 64; refine (sum_any (rd_head (HR.out _ S8.tail) (8 + k)) hlw (HB.out.take _) (by omega)).mono ?_; rintro e w9 ⟨rfl, rfl⟩; rw [HV2.out])
        | (go_at_call 28; refine (clone_any S8.tail (rd_sub (HR.out _ S8.tail) 8 k) hlc (by simp) (by omega)).mono ?_; rintro e w10 ⟨ao, cap, rfl, S10⟩))
      go_ret3
      refine ⟨ao, cap, ?_, ?_⟩
      · rw [HD3.out]
        show Ending.returned (.tuple #[.slice ao k cap, .int .i64 (8 + (k : Int) + 4), .int .i64 0]) = Ending.returned (.tuple #[.slice ao ((xs.drop 8).take k).length cap, .int .i64 (12 + (k : Int)), .int .i64 0])
        rw [hlc, show 8 + (k : Int) + 4 = 12 + (k : Int) by omega]
      · rw [HD3.out]
        show Sat W0 _ (sbs ao ((xs.drop 8).take k).length cap ((xs.drop 8).take k) :: L)
        rw [hlc]
        exact S10
    · have HD3 : Hid (D = ([], 0, 4)) := by show D = _; rw [HD2.out, if_pos hne]
      clear HD2
      have hne' : (v1 != v2) = true := by simpa using hne
      clear hne
      go_wp2_with (first
        | (go_at_call 48; refine (newReader_any (m := 4) S6 (rd_sub (HR.out _ S6) (8 + k) 4) hlx (by simp) (by omega)).mono ?_; rintro e w7 ⟨p, rfl, S7⟩)
        | (go_at_call 61; refine (rFour_any S7 hbx).mono ?_; rw [HLT2.out]; rintro e w8 ⟨rfl, S8⟩)
        | (go_at_call 64; refine (sum_any (rd_head (HR.out _ S8.tail) (8 + k)) hlw (HB.out.take _) (by omega)).mono ?_; rintro e w9 ⟨rfl, rfl⟩; rw [HV2.out]))
      go_ret3
      rw [HD3.out]
      exact Decoded.bad S8.tail
end Go.Proofs.Ytdgalljalcediaa
