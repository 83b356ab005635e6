/-
  frame: the document's Decode and Open.
-/
import Derived.Test.YtdgalljalcediaaFr4
import Derived.Test.YtdgalljalcediaaWiQ
import Derived.Test.YtdgalljalcediaaFR1N
import Derived.Test.YtdgalljalcediaaFRef1S
namespace Go.Proofs.Ytdgalljalcediaa
open Go.RowKit Go.Sep Go.Oct
set_option linter.unusedSimpArgs false

theorem le_inj4 {xs ys : List Int} (hx : Bytes xs) (hy : Bytes ys) (h1 : xs.length = 4) (h2 : ys.length = 4) (h : le xs = le ys) : xs = ys := by
  match xs, h1 with
  | [a, b, c, d], _ =>
    match ys, h2 with
    | [a', b', c', d'], _ => rw [← four4_le hx, ← four4_le hy, h]
theorem head_iff {xs : List Int} (hB : Bytes xs) (h : 8 ≤ xs.length) : xs.take 8 = headP (le (xs.take 4)) ↔ le ((xs.drop 4).take 4) = (crc (xs.take 4) : Int) := by
  have h4 : (xs.take 4).length = 4 := by rw [List.length_take]; omega
  have h5 : ((xs.drop 4).take 4).length = 4 := by rw [List.length_take, List.length_drop]; omega
  have e1 : xs.take 8 = xs.take 4 ++ (xs.drop 4).take 4 := by
    rw [show (8 : Nat) = 4 + 4 from rfl, List.take_add]
  have e2 : four4 (le (xs.take 4)) = xs.take 4 := by
    obtain ⟨a, b, c, d, e⟩ : ∃ a b c d, xs.take 4 = [a, b, c, d] := by
      match xs.take 4, h4 with
      | [a, b, c, d], _ => exact ⟨a, b, c, d, rfl⟩
    have hb4 := hB.take 4
    rw [e] at hb4 ⊢
    exact four4_le hb4
  unfold headP crcB
  rw [e2, e1]
  have hbd := crc_bd (xs.take 4)
  constructor
  · intro h
    have := List.append_cancel_left h
    rw [this, le_four4 hbd.1]
  · intro h
    rw [le_inj4 ((hB.drop 4).take 4) (four4_bytes hbd.1 hbd.2) h5 (four4_length _) (by rw [h, le_four4 hbd.1])]

set_option maxRecDepth 100000 in
theorem four_any {W0 w : World} {L : List Asn} (S : Sat W0 w L) {a : Option Addr} {m c : Nat} {xs : List Int} (hR : ∀ w', Sat W0 w' L → Rd w' a (bv xs)) (hm : xs.length = m) (h4 : 4 ≤ m) (hmc : m ≤ c) (hcm : c ≤ maxLen) (hB : Bytes xs) {v : Int} (hv : le (xs.take 4) = v) :
    Calls Try.prog 71 #[.slice a m c] w fun e w' => e = .returned (.int .u32 v) ∧ Sat W0 w' L := by
  have S1 : Sat W0 (w.alloc (.cells #[.slice a m c, .int .i64 0] 82)) (R1 w.heap.size a m c 0 :: L) := S.alloc [.slice a m c, .int .i64 0] 82
  have H : Rest W0 L a m c xs := ⟨hR, hm, hmc, hcm, hB⟩
  have HK : Hid (le (tk 4 xs 0).1 = v) := by show le _ = _; rw [tk_ge (by omega)]; exact hv
  have HRest : Hid (Rest W0 L a m c xs) := H
  clear hR hm H hv
  go_enter Try.func71, Try.ntmps71
  go_wp2_with (first
    | (go_at_call 75; refine (r1Four_any (fun w' h => h) HRest.out (by simp) S1).mono ?_; unfold Given; rw [HK.out]; rintro e w2 ⟨ao, n2, c2, _, rfl, S2⟩))
  go_ret
  exact ⟨rfl, S2.tail⟩

set_option maxRecDepth 100000 in
set_option maxHeartbeats 3200000 in
theorem r4Decode_any {W0 w : World} {L : List Asn} (S : Sat W0 w L) {a : Option Addr} {m c : Nat} {xs : List Int} (hR : ∀ w', Sat W0 w' L → Rd w' a (bv xs)) (hm : xs.length = m) (hB : Bytes xs) (hmc : m ≤ c) (hcm : c ≤ maxLen) (hb : m ≤ 1000000000) :
    Calls Try.prog 56 #[.slice a m c] w (Decoded W0 L (decF xs)) := by
  by_cases h8 : m < 8
  · have hd : decF xs = ([], 0, 2) := by unfold decF; rw [if_pos (by omega)]
    rw [hd]
    have h8' : decide ((m : Int) < 8) = true := decide_eq_true (by omega)
    clear hd
    go_enter Try.func56, Try.ntmps56
    go_wp2_with fail
    go_ret3
    exact Decoded.bad S
  obtain ⟨x, hx⟩ : ∃ x, xs[0]? = some x := ⟨xs[0], List.getElem?_eq_getElem (by omega)⟩
  obtain ⟨b, off, rfl, _⟩ := hR w S 0 (.int .u8 x) (cell_some hx)
  have h8' : decide ((m : Int) < 8) = false := decide_eq_false (by omega)
  have HM := Lib.hid hm
  have HR := Lib.hid hR
  have hB4 : Bytes (xs.take 4) := hB.take 4
  have hl4 : (xs.take 4).length = 4 := by rw [List.length_take]; omega
  have hn0 : 0 ≤ le (xs.take 4) := le_lo hB4
  have hn1 : le (xs.take 4) < 4294967296 := by have := le_hi hB4; rw [hl4] at this; exact this
  have HB := Lib.hid hB
  have hm4 : (4 : Int) ≤ (m : Int) := by omega
  have hc4 : (4 : Int) ≤ (c : Int) := by omega
  have hcm4 : c - 4 ≤ maxLen := by omega
  have hcne : ¬ c = 4 := by omega
  have hd4 : (xs.drop 4).length = m - 4 := by rw [List.length_drop, hm]
  have HIF := Lib.hid (head_iff hB (by omega))
  have HD : Hid (decF xs = if xs.take 8 ≠ headP (le (xs.take 4)) then ([], 0, 4)
      else if 65536 < le (xs.take 4) then ([], 0, 5)
      else if xs.length < 12 + (le (xs.take 4)).toNat then ([], 0, 2)
      else if le ((xs.drop (8 + (le (xs.take 4)).toNat)).take 4) ≠ crc (xs.take (8 + (le (xs.take 4)).toNat)) then ([], 0, 4)
      else ((xs.drop 8).take (le (xs.take 4)).toNat, 12 + le (xs.take 4), 0)) := by show decF xs = _; unfold decF; rw [if_neg (by omega)]
  rw [HM.out] at HD
  generalize decF xs = D at HD ⊢
  obtain ⟨n, hn⟩ : ∃ n, le (xs.take 4) = n := ⟨_, rfl⟩
  obtain ⟨v1, hv1⟩ : ∃ v1, le ((xs.drop 4).take 4) = v1 := ⟨_, rfl⟩
  obtain ⟨v2, hv2⟩ : ∃ v2 : Int, (crc (xs.take 4) : Int) = v2 := ⟨_, rfl⟩
  rw [hn] at HD HIF hn0 hn1
  rw [hv1, hv2] at HIF
  have HN := Lib.hid hn
  have HV1 := Lib.hid hv1
  have HV2 := Lib.hid hv2
  have HRd4 : ∀ w', Sat W0 w' L → Rd w' (some ⟨b, off + 4, none⟩) (bv (xs.drop 4)) := fun w' h => by have := (HR.out w' h).drop 4; unfold bv at this ⊢; rwa [← List.map_drop] at this
  have HRD4 := Lib.hid HRd4
  obtain ⟨i0, hi, hz0, hz1, hz2⟩ := info_parts Try.infoB
  clear hm hR hx hB hB4 hn hv1 hv2 HRd4
  go_enter Try.func56, Try.ntmps56
  go_wp2_with fail
  have Sd := S.drew
  go_cut [15] (fun v wx => v = .bool (v1 != v2) ∧ Sat W0 wx L)
  case first =>
    refine wp_region_drawn (N := 7) (LN := #[false, false, false, false, false, false, false]) (by kernel_rfl) (by kernel_rfl) (by kernel_rfl) ?_
    refine wpAny_loc (i := 0) (v := ?_) (LN := #[true, false, false, false, false, false, false]) rfl (by kernel_rfl) (by kernel_rfl) (by kernel_rfl) (fun _ _ _ h => h) (by kernel_rfl) (by rfl) ?_ ?_
    rotate_left
    · intro w; first | (go_simp; done) | (go_simp; with_reducible rfl)
    try simp only [Act.put, List.getElem_toArray, List.getElem_cons_zero, List.getElem_cons_succ, List.setIfInBounds_toArray, List.set_cons_zero, List.set_cons_succ]
    refine wpAny_loc (i := 1) (v := ?_) (LN := #[true, true, false, false, false, false, false]) rfl (by kernel_rfl) (by kernel_rfl) (by kernel_rfl) (fun _ _ _ h => h) (by kernel_rfl) (by rfl) ?_ ?_
    rotate_left
    · intro w; first | (go_simp; done) | (go_simp; with_reducible rfl)
    try simp only [Act.put, List.getElem_toArray, List.getElem_cons_zero, List.getElem_cons_succ, List.setIfInBounds_toArray, List.set_cons_zero, List.set_cons_succ]
    refine wpAny_loc (i := 3) (v := ?_) (LN := #[true, true, false, true, false, false, false]) rfl (by kernel_rfl) (by kernel_rfl) (by kernel_rfl) (fun _ _ _ h => h) (by kernel_rfl) (by rfl) ?_ ?_
    rotate_left
    · intro w; first | (go_simp; done) | (go_simp; with_reducible rfl)
    try simp only [Act.put, List.getElem_toArray, List.getElem_cons_zero, List.getElem_cons_succ, List.setIfInBounds_toArray, List.set_cons_zero, List.set_cons_succ]
    refine wpAny_loc (i := 4) (v := ?_) (LN := #[true, true, false, true, true, false, false]) rfl (by kernel_rfl) (by kernel_rfl) (by kernel_rfl) (fun _ _ _ h => h) (by kernel_rfl) (by rfl) ?_ ?_
    rotate_left
    · intro w; first | (go_simp; done) | (go_simp; with_reducible rfl)
    try simp only [Act.put, List.getElem_toArray, List.getElem_cons_zero, List.getElem_cons_succ, List.setIfInBounds_toArray, List.set_cons_zero, List.set_cons_succ]
    refine wpAny_one (i := 2) (LN := #[true, true, true, true, true, false, false]) (by kernel_rfl) rfl (by kernel_rfl) ?_
    intro K hK
    go_simp
    go_at_call 71
    refine (four_any Sd HRD4.out hd4 (by omega) (by omega) hcm4 (HB.out.drop 4) HV1.out).mono ?_
    rintro e w4 ⟨rfl, S4⟩
    go_wp2_with fail
    refine hK.out _ _ ?_
    clear hK K
    try simp only [Act.put, List.getElem_toArray, List.getElem_cons_zero, List.getElem_cons_succ, List.setIfInBounds_toArray, List.set_cons_zero, List.set_cons_succ]
    refine wpAny_one (i := 5) (LN := #[true, true, true, true, true, true, false]) (by kernel_rfl) rfl (by kernel_rfl) ?_
    intro K hK
    go_simp
    go_at_call 60
    refine (refSum_any (m := 4) (rd_head (HR.out _ S4) 4) hl4 (HB.out.take 4) (by omega)).mono ?_
    rintro e w5 ⟨rfl, rfl⟩
    rw [HV2.out]
    go_wp2_with fail
    refine hK.out _ _ ?_
    clear hK K
    try simp only [Act.put, List.getElem_toArray, List.getElem_cons_zero, List.getElem_cons_succ, List.setIfInBounds_toArray, List.set_cons_zero, List.set_cons_succ]
    refine wpAny_loc (i := 6) (v := ?_) (LN := #[true, true, true, true, true, true, true]) rfl (by kernel_rfl) (by kernel_rfl) (by kernel_rfl) (fun _ _ _ h => h) (by kernel_rfl) (by rfl) ?_ ?_
    rotate_left
    · intro w; first | (go_simp; done) | (go_simp; with_reducible rfl)
    try simp only [Act.put, List.getElem_toArray, List.getElem_cons_zero, List.getElem_cons_succ, List.setIfInBounds_toArray, List.set_cons_zero, List.set_cons_succ]
    refine ⟨by kernel_rfl, ?_⟩
    try simp only [Act.put, List.getElem_toArray, List.getElem_cons_zero, List.getElem_cons_succ, List.setIfInBounds_toArray, List.set_cons_zero, List.set_cons_succ]
    go_wp2_with fail
    go_meet
    exact ⟨rfl, S4⟩
  case rest =>
    obtain ⟨rfl, S6⟩ := hcut
    clear Sd
    by_cases heq : v1 = v2
    case neg =>
      have e1 : (v1 != v2) = true := by simpa using heq
      have hd : D = ([], 0, 4) := by rw [HD.out, if_pos (fun h => heq (HIF.out.1 h))]
      have HDx := Lib.hid hd
      rw [e1]
      clear e1 hd HD heq
      go_wp2_with fail
      go_ret3
      rw [HDx.out]
      exact Decoded.bad S6
    have e1 : (v1 != v2) = false := by simpa using heq
    have HD1 := HD.out
    rw [if_neg (fun h => h (HIF.out.2 heq))] at HD1
    rw [e1]
    clear HD e1 heq HIF
    by_cases h65 : 65536 < n
    · rw [if_pos h65] at HD1
      have HDx := Lib.hid HD1
      have h65' : decide ((65536 : Int) < n) = true := decide_eq_true h65
      clear HD1
      go_wp2_with (first
        | (go_at_call 71; refine (four_any S6 HR.out HM.out (by omega) hmc hcm HB.out HN.out).mono ?_; rintro e w7 ⟨rfl, S7⟩))
      go_ret3
      rw [HDx.out]
      exact Decoded.bad S7
    rw [if_neg h65] at HD1
    have h65' : decide ((65536 : Int) < n) = false := decide_eq_false h65
    obtain ⟨k, rfl⟩ : ∃ k : Nat, n = (k : Int) := ⟨n.toNat, by omega⟩
    rw [show (k : Int).toNat = k by omega] at HD1
    have hk : k ≤ 65536 := by omega
    by_cases hln : m < 12 + k
    · rw [if_pos hln] at HD1
      have HDx := Lib.hid HD1
      have hl' : decide ((m : Int) < 12 + (k : Int)) = true := decide_eq_true (by omega)
      clear HD1 h65
      go_wp2_with (first
        | (go_at_call 71; refine (four_any S6 HR.out HM.out (by omega) hmc hcm HB.out HN.out).mono ?_; rintro e w7 ⟨rfl, S7⟩))
      go_ret3
      rw [HDx.out]
      exact Decoded.bad S7
    rw [if_neg hln] at HD1
    have hl' : decide ((m : Int) < 12 + (k : Int)) = false := decide_eq_false (by omega)
    have hkc : (8 : Int) + (k : Int) ≤ (c : Int) := by omega
    have hkm : (8 : Int) + (k : Int) ≤ (m : Int) := by omega
    have hkm12 : 12 + k ≤ m := by omega
    have hk88 : 8 + k - 8 = k := by omega
    have hto : (8 + (k : Int)).toNat = 8 + k := by omega
    have hk0 : (0 : Int) ≤ 8 + (k : Int) := by omega
    have hk8 : (8 : Int) ≤ 8 + (k : Int) := by omega
    have hk00 : (0 : Int) ≤ (k : Int) := Int.natCast_nonneg k
    have hcne8 : ¬ c = 8 + k := by omega
    have hcne88 : ¬ c = 8 := by omega
    have HD2 := Lib.hid HD1
    have hd8 : (xs.drop (8 + k)).length = m - (8 + k) := by rw [List.length_drop, HM.out]
    have HRd8 : ∀ w', Sat W0 w' L → Rd w' (some ⟨b, off + (8 + k), none⟩) (bv (xs.drop (8 + k))) := fun w' h => by have := (HR.out w' h).drop (8 + k); unfold bv at this ⊢; rwa [← List.map_drop] at this
    have HRD8 := Lib.hid HRd8
    have hlw : (xs.take (8 + k)).length = 8 + k := by rw [List.length_take, HM.out]; omega
    have hlc : (((xs.drop 8).take k)).length = k := by rw [List.length_take, List.length_drop, HM.out]; omega
    have hck8 : c - (8 + k) ≤ maxLen := by omega
    obtain ⟨u1, hu1⟩ : ∃ u1, le ((xs.drop (8 + k)).take 4) = u1 := ⟨_, rfl⟩
    obtain ⟨u2, hu2⟩ : ∃ u2 : Int, (crc (xs.take (8 + k)) : Int) = u2 := ⟨_, rfl⟩
    rw [hu1, hu2] at HD2
    have HU1 := Lib.hid hu1
    have HU2 := Lib.hid hu2
    clear hu1 hu2 HRd8 HD1 h65 hln
    go_wp2_with (first
      | (go_at_call 71; refine (four_any S6 HR.out HM.out (by omega) hmc hcm HB.out HN.out).mono ?_; rintro e w7 ⟨rfl, S7⟩))
    have S7d := S7.drew
    have hw8 : IntKind.i64.wrap (8 + (k : Int)) = 8 + (k : Int) := by rw [IntKind.wrap_i64]; omega
    go_cut [36] (fun v wx => v = .bool (u1 != u2) ∧ Sat W0 wx L)
    case first =>
      refine wp_region_drawn (N := 11) (LN := #[false, false, false, false, false, false, false, false, false, false, false]) (by kernel_rfl) (by kernel_rfl) (by kernel_rfl) ?_
      refine wpAny_loc (i := 0) (v := ?_) (LN := #[true, false, false, false, false, false, false, false, false, false, false]) rfl (by kernel_rfl) (by kernel_rfl) (by kernel_rfl) (fun _ _ _ h => h) (by kernel_rfl) (by rfl) ?_ ?_
      rotate_left
      · intro w; first | (go_simp; done) | (go_simp; with_reducible rfl)
      try simp only [Act.put, List.getElem_toArray, List.getElem_cons_zero, List.getElem_cons_succ, List.setIfInBounds_toArray, List.set_cons_zero, List.set_cons_succ]
      refine wpAny_loc (i := 1) (v := ?_) (LN := #[true, true, false, false, false, false, false, false, false, false, false]) rfl (by kernel_rfl) (by kernel_rfl) (by kernel_rfl) (fun _ _ _ h => h) (by kernel_rfl) (by rfl) ?_ ?_
      rotate_left
      · intro w; first | (go_simp; done) | (go_simp; with_reducible rfl)
      try simp only [Act.put, List.getElem_toArray, List.getElem_cons_zero, List.getElem_cons_succ, List.setIfInBounds_toArray, List.set_cons_zero, List.set_cons_succ]
      refine wpAny_loc (i := 2) (v := ?_) (LN := #[true, true, true, false, false, false, false, false, false, false, false]) rfl (by kernel_rfl) (by kernel_rfl) (by kernel_rfl) (fun _ _ _ h => h) (by kernel_rfl) (by rfl) ?_ ?_
      rotate_left
      · intro w; first | (go_simp; done) | (go_simp; with_reducible rfl)
      try simp only [Act.put, List.getElem_toArray, List.getElem_cons_zero, List.getElem_cons_succ, List.setIfInBounds_toArray, List.set_cons_zero, List.set_cons_succ]
      refine wpAny_loc (i := 3) (v := ?_) (LN := #[true, true, true, true, false, false, false, false, false, false, false]) rfl (by kernel_rfl) (by kernel_rfl) (by kernel_rfl) (fun _ _ _ h => h) (by kernel_rfl) (by rfl) ?_ ?_
      rotate_left
      · intro w; first | (go_simp; done) | (go_simp; with_reducible rfl)
      try simp only [Act.put, List.getElem_toArray, List.getElem_cons_zero, List.getElem_cons_succ, List.setIfInBounds_toArray, List.set_cons_zero, List.set_cons_succ]
      refine wpAny_loc (i := 5) (v := ?_) (LN := #[true, true, true, true, false, true, false, false, false, false, false]) rfl (by kernel_rfl) (by kernel_rfl) (by kernel_rfl) (fun _ _ _ h => h) (by kernel_rfl) (by rfl) ?_ ?_
      rotate_left
      · intro w; first | (go_simp; done) | (go_simp; with_reducible rfl)
      try simp only [Act.put, List.getElem_toArray, List.getElem_cons_zero, List.getElem_cons_succ, List.setIfInBounds_toArray, List.set_cons_zero, List.set_cons_succ]
      refine wpAny_loc (i := 6) (v := ?_) (LN := #[true, true, true, true, false, true, true, false, false, false, false]) rfl (by kernel_rfl) (by kernel_rfl) (by kernel_rfl) (fun _ _ _ h => h) (by kernel_rfl) (by rfl) ?_ ?_
      rotate_left
      · intro w; first | (go_simp; done) | (go_simp; with_reducible rfl)
      try simp only [Act.put, List.getElem_toArray, List.getElem_cons_zero, List.getElem_cons_succ, List.setIfInBounds_toArray, List.set_cons_zero, List.set_cons_succ]
      refine wpAny_loc (i := 7) (v := ?_) (LN := #[true, true, true, true, false, true, true, true, false, false, false]) rfl (by kernel_rfl) (by kernel_rfl) (by kernel_rfl) (fun _ _ _ h => h) (by kernel_rfl) (by rfl) ?_ ?_
      rotate_left
      · intro w; first | (go_simp; done) | (go_simp; with_reducible rfl)
      try simp only [Act.put, List.getElem_toArray, List.getElem_cons_zero, List.getElem_cons_succ, List.setIfInBounds_toArray, List.set_cons_zero, List.set_cons_succ]
      refine wpAny_loc (i := 8) (v := ?_) (LN := #[true, true, true, true, false, true, true, true, true, false, false]) rfl (by kernel_rfl) (by kernel_rfl) (by kernel_rfl) (fun _ _ _ h => h) (by kernel_rfl) (by rfl) ?_ ?_
      rotate_left
      · intro w; first | (go_simp; done) | (go_simp; with_reducible rfl)
      try simp only [Act.put, List.getElem_toArray, List.getElem_cons_zero, List.getElem_cons_succ, List.setIfInBounds_toArray, List.set_cons_zero, List.set_cons_succ]
      refine wpAny_one (i := 4) (LN := #[true, true, true, true, true, true, true, true, true, false, false]) (by kernel_rfl) rfl (by kernel_rfl) ?_
      intro K hK
      go_simp
      go_at_call 71
      refine (four_any S7d HRD8.out hd8 (by omega) (by omega) hck8 (HB.out.drop _) HU1.out).mono ?_
      rintro e w8 ⟨rfl, S8⟩
      go_wp2_with fail
      refine hK.out _ _ ?_
      clear hK K
      try simp only [Act.put, List.getElem_toArray, List.getElem_cons_zero, List.getElem_cons_succ, List.setIfInBounds_toArray, List.set_cons_zero, List.set_cons_succ]
      refine wpAny_one (i := 9) (LN := #[true, true, true, true, true, true, true, true, true, true, false]) (by kernel_rfl) rfl (by kernel_rfl) ?_
      intro K hK
      go_simp
      go_at_call 60
      refine (refSum_any (rd_head (HR.out _ S8) (8 + k)) hlw (HB.out.take _) (by omega)).mono ?_
      rintro e w9 ⟨rfl, rfl⟩
      rw [HU2.out]
      go_wp2_with fail
      refine hK.out _ _ ?_
      clear hK K
      try simp only [Act.put, List.getElem_toArray, List.getElem_cons_zero, List.getElem_cons_succ, List.setIfInBounds_toArray, List.set_cons_zero, List.set_cons_succ]
      refine wpAny_loc (i := 10) (v := ?_) (LN := #[true, true, true, true, true, true, true, true, true, true, true]) rfl (by kernel_rfl) (by kernel_rfl) (by kernel_rfl) (fun _ _ _ h => h) (by kernel_rfl) (by rfl) ?_ ?_
      rotate_left
      · intro w; first | (go_simp; done) | (go_simp; with_reducible rfl)
      try simp only [Act.put, List.getElem_toArray, List.getElem_cons_zero, List.getElem_cons_succ, List.setIfInBounds_toArray, List.set_cons_zero, List.set_cons_succ]
      refine ⟨by kernel_rfl, ?_⟩
      try simp only [Act.put, List.getElem_toArray, List.getElem_cons_zero, List.getElem_cons_succ, List.setIfInBounds_toArray, List.set_cons_zero, List.set_cons_succ]
      go_wp2_with fail
      go_meet
      exact ⟨rfl, S8⟩
    case rest =>
      obtain ⟨rfl, S10⟩ := hcut
      clear S7 S7d S6 hto hk88
      by_cases hne : u1 = u2
      · have e1 : (u1 != u2) = false := by simpa using hne
        have HD3 : Hid (D = ((xs.drop 8).take k, 12 + (k : Int), 0)) := by show D = _; rw [HD2.out, if_neg (by simpa using hne)]
        rw [e1]
        clear e1 HD2 hne
        have Sn : Sat W0 (_) (slc 5 1 (some ⟨_, 0, none⟩) 0 0 [] :: L) := Sat.own_new (post := []) (S10.alloc [] 5) rfl (Nat.le_refl _) (by unfold maxLen; omega) (by simp)
        have HRs := rd_sub (HR.out _ Sn.tail) 8 k
        go_wp2_with (first
          | (at_builtin; refine wpList_append_sat rfl (.tmp 37) (.tmp 41) _ rfl 5 i0 (.int .u8 0) 1 1 Try.underlying29 hi hz0 hz1 hz2 rfl (by decide) Sn rfl rfl HRs (by rw [bv_length, hlc]; omega) (bv_one _) (by unfold maxLen; omega) (by omega) ?_; intro ao11 cap11 w11 S11; simp only [Nat.zero_add, List.nil_append] at S11 ⊢; rw [show 8 + k - 8 = k by omega] at S11 ⊢))
        go_ret3
        refine ⟨ao11, cap11, ?_, ?_⟩
        · rw [HD3.out]
          show Ending.returned (.tuple #[.slice ao11 k cap11, .int .i64 (12 + (k : Int)), .int .i64 0]) = Ending.returned (.tuple #[.slice ao11 ((xs.drop 8).take k).length cap11, .int .i64 (12 + (k : Int)), .int .i64 0])
          rw [hlc]
        · rw [HD3.out]
          show Sat W0 _ (slc 5 1 ao11 ((xs.drop 8).take k).length cap11 (bv ((xs.drop 8).take k)) :: L)
          rw [hlc]
          exact S11
      · have e1 : (u1 != u2) = true := by simpa using hne
        have HD3 : Hid (D = ([], 0, 4)) := by show D = _; rw [HD2.out, if_pos hne]
        rw [e1]
        clear e1 HD2 hne
        go_wp2_with fail
        go_ret3
        rw [HD3.out]
        exact Decoded.bad S10

def Opened (W0 : World) (L : List Asn) (r : List Int × Int) (e : Ending) (w' : World) : Prop := ∃ ao cap, e = .returned (.tuple #[.slice ao r.1.length cap, .int .i64 r.2]) ∧ Sat W0 w' (sbs ao r.1.length cap r.1 :: L)

set_option maxRecDepth 100000 in
set_option maxHeartbeats 3200000 in
theorem open_any {W0 w : World} {L : List Asn} (S : Sat W0 w L) {a : Option Addr} {m c : Nat} {xs : List Int} (hR : ∀ w', Sat W0 w' L → Rd w' a (bv xs)) (hm : xs.length = m) (hB : Bytes xs) (hmc : m ≤ c) (hcm : c ≤ maxLen) (hb : m ≤ 1000000000) :
    Calls Try.prog 32 #[.slice a m c] w (Opened W0 L (openF xs)) := by
  have HF := Lib.hid (r4Decode_any S hR hm hB hmc hcm hb)
  have HO : Hid (openF xs = if (decF xs).2.2 = 0 then (if (decF xs).2.1 = (m : Int) then ((decF xs).1, 0) else ([], 3)) else ([], (decF xs).2.2)) := by show _ = _; unfold openF; rw [hm]
  generalize openF xs = O at HO ⊢
  generalize decF xs = D at HF HO
  obtain ⟨d1, d2, d3⟩ := D
  simp only at HO
  clear hR hm hB
  by_cases h3 : d3 = 0
  · subst h3
    by_cases h2 : d2 = (m : Int)
    · subst h2
      have HO2 : Hid (O = (d1, 0)) := by show O = _; rw [HO.out, if_pos rfl, if_pos rfl]
      clear HO
      go_enter Try.func32, Try.ntmps32
      go_wp2_with (first
        | (go_at_call 56; refine HF.out.mono ?_; unfold Decoded; rintro e w2 ⟨ao, cap, rfl, S2⟩))
      go_ret2
      rw [HO2.out]
      exact ⟨ao, cap, rfl, S2⟩
    · have HO2 : Hid (O = ([], 3)) := by show O = _; rw [HO.out, if_pos rfl, if_neg h2]
      have h2' : (d2 != (m : Int)) = true := by simpa using h2
      clear HO h2
      go_enter Try.func32, Try.ntmps32
      go_wp2_with (first
        | (go_at_call 56; refine HF.out.mono ?_; unfold Decoded; rintro e w2 ⟨ao, cap, rfl, S2⟩))
      go_ret2
      rw [HO2.out]
      exact ⟨none, 0, rfl, Sat.own_none.2 ⟨rfl, rfl, rfl, S2.tail⟩⟩
  · have HO2 : Hid (O = ([], d3)) := by show O = _; rw [HO.out, if_neg h3]
    have h3' : (d3 == 0) = false := by simpa using h3
    have h3'' : (d3 != 0) = true := by simpa using h3
    clear HO h3
    go_enter Try.func32, Try.ntmps32
    go_wp2_with (first
      | (go_at_call 56; refine HF.out.mono ?_; unfold Decoded; rintro e w2 ⟨ao, cap, rfl, S2⟩))
    go_ret2
    rw [HO2.out]
    exact ⟨none, 0, rfl, Sat.own_none.2 ⟨rfl, rfl, rfl, S2.tail⟩⟩
end Go.Proofs.Ytdgalljalcediaa
