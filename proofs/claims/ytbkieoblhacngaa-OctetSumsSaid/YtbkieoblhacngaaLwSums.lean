/-
  The law OctetSums, walked: it answers true, whatever is handed in.
-/
import Derived.Test.YtbkieoblhacngaaLaw1
namespace Go.Proofs.Ytbkieoblhacngaa
open Go.RowKit Go.Sep Go.Oct

theorem xor_u8_byte {x y : Int} (hx : 0 ≤ x ∧ x < 256) (hy : 0 ≤ y ∧ y < 256) : (0 ≤ bits .xor .u8 x y ∧ bits .xor .u8 x y < 256) ∧ (bits .xor .u8 x y = x → y = 0) := by
  rw [u8_xor _ _ hx.1 hx.2 hy.1 hy.2]
  obtain ⟨a, rfl⟩ := Int.eq_ofNat_of_zero_le hx.1
  obtain ⟨b, rfl⟩ := Int.eq_ofNat_of_zero_le hy.1
  rw [Int.toNat_natCast, Int.toNat_natCast]
  have hl : a ^^^ b < 256 := Nat.xor_lt_two_pow (n := 8) (by omega) (by omega)
  refine ⟨by omega, fun h => ?_⟩
  have h' : a ^^^ b = a := by omega
  have h2 : a ^^^ (a ^^^ b) = a ^^^ a := by rw [h']
  rw [← Nat.xor_assoc, Nat.xor_self, Nat.zero_xor] at h2
  omega
theorem bytes_set {bs : List Int} (h : Bytes bs) {i : Nat} {c : Int} (hc : 0 ≤ c ∧ c < 256) : Bytes (bs.set i c) := fun x hx => by
  rcases List.mem_or_eq_of_mem_set hx with hx | rfl
  · exact h x hx
  · exact hc
theorem set_sat {W0 w : World} {L : List Asn} {b off n cap : Nat} {bs cs : List Int} (S : Sat W0 w (sbs (some ⟨b, off, none⟩) n cap (bs ++ cs) :: L)) {i : Nat} (hi : i < bs.length) {c : Int} :
    Sat W0 (w.setCell ⟨b, off + i, none⟩ (.int .u8 c)) (sbs (some ⟨b, off, none⟩) n cap (bs.set i c ++ cs) :: L) := by
  have h := Sat.own_set (xs := bv (bs ++ cs)) S (i := i) (by rw [bv_length]; simp; omega) (.int .u8 c)
  have e : (bv (bs ++ cs)).set i (.int .u8 c) = bv (bs.set i c ++ cs) := by
    rw [bv_append, List.set_append_left _ _ (by rw [bv_length]; exact hi), bv_append]
    simp [bv, List.map_set]
  rw [e] at h
  exact h
theorem set_rd {W0 w : World} {L : List Asn} {b off n cap : Nat} {bs cs : List Int} (S : Sat W0 w (sbs (some ⟨b, off, none⟩) n cap (bs ++ cs) :: L)) {i : Nat} (hi : i < bs.length) {c : Int} :
    Rd (w.setCell ⟨b, off + i, none⟩ (.int .u8 c)) (some ⟨b, off, none⟩) (bv (bs.set i c)) := rd_prefix (sbs_rd (set_sat S hi)).1

set_option maxRecDepth 100000 in
theorem OctetSums_walk {w : World} {a : Option Addr} {m c : Nat} {bs : List Int} (hR : Rd w a (bv bs)) (hm : bs.length = m) (hB : Bytes bs) (at_ by_ : Int) (hby : 0 ≤ by_ ∧ by_ < 256) (hmc : m ≤ c) :
    Calls Try.prog 3 #[.slice a m c, .int .i64 at_, .int .u8 by_] w fun e w' => e = .returned (.bool true) ∧ Below w.heap.size w w' := by
  by_cases hbig : 3000 < m
  · go_enter Try.func3, Try.ntmps3
    go_wp2_with fail
    go_ret
    exact ⟨rfl, Below.refl _ _⟩
  · have S0 := Sat.start w
    have HM := Lib.hid hm
    have hcapA : ∀ (w1 : World) (ad : Addr) (cap : Nat) (L : List Asn), Sat w w1 (sbs (some ad) (m + 1) cap (bs ++ [171]) :: L) → m + 1 ≤ cap ∧ Rd w1 (some ad) (bv (bs ++ [171])) ∧ Rd w1 (some ad) (bv bs) ∧ Rd w1 a (bv bs) :=
      fun w1 ad cap L S => ⟨(sbs_rd S).2.2.1, (sbs_rd S).1, rd_prefix (sbs_rd S).1, hR.below S.below⟩
    clear hm
    have HC := Lib.hid hcapA
    clear hcapA
    rcases Nat.eq_zero_or_pos m with h0 | h0
    · subst h0
      go_enter Try.func3, Try.ntmps3
      go_wp2_with (first
          | (go_at_call 9; refine (roomy_any S0 (fun w' h => hR.below h.below) HM.out (by omega)).mono ?_; rintro e w1 ⟨ad, cap, rfl, S1⟩; obtain ⟨hcap, hRf, hRw, hRp⟩ := HC.out _ _ _ _ S1)
          | (go_at_call 10; refine (sum_any hRw HM.out hB (by omega)).mono ?_; rintro e w2 ⟨rfl, rfl⟩)
          | (go_at_call 11; refine (refSum_any hRp HM.out hB (by omega)).mono ?_; rintro e w3 ⟨rfl, rfl⟩)
          | (go_at_call 12; refine (stands_any hRf hRp (by rw [HM.out]) HM.out hcap (by omega)).mono ?_; rintro e w4 ⟨rfl, hq⟩; have S4 := S1.quiet hq; clear hq)
          | (go_at_call 13; refine (known_any S4).mono ?_; rintro e w5 ⟨rfl, S5⟩))
      go_ret
      exact ⟨rfl, S5.below⟩
    · by_cases hb0 : by_ = 0
      · have hb0' : (by_ != 0) = false := by simpa using hb0
        clear hb0
        go_enter Try.func3, Try.ntmps3
        go_wp2_with (first
          | (go_at_call 9; refine (roomy_any S0 (fun w' h => hR.below h.below) HM.out (by omega)).mono ?_; rintro e w1 ⟨ad, cap, rfl, S1⟩; obtain ⟨hcap, hRf, hRw, hRp⟩ := HC.out _ _ _ _ S1)
          | (go_at_call 10; refine (sum_any hRw HM.out hB (by omega)).mono ?_; rintro e w2 ⟨rfl, rfl⟩)
          | (go_at_call 11; refine (refSum_any hRp HM.out hB (by omega)).mono ?_; rintro e w3 ⟨rfl, rfl⟩)
          | (go_at_call 12; refine (stands_any hRf hRp (by rw [HM.out]) HM.out hcap (by omega)).mono ?_; rintro e w4 ⟨rfl, hq⟩; have S4 := S1.quiet hq; clear hq)
          | (go_at_call 13; refine (known_any S4).mono ?_; rintro e w5 ⟨rfl, S5⟩))
        go_ret
        exact ⟨rfl, S5.below⟩
      · have hb0' : (by_ != 0) = true := by simpa using hb0
        obtain ⟨q, hq⟩ : ∃ q : Nat, bits .and .i64 at_ 1073741823 = (q : Int) := ⟨(at_ % 1073741824).toNat, by rw [i64_and30]; omega⟩
        obtain ⟨i, hi⟩ : ∃ i : Nat, i = q % m := ⟨_, rfl⟩
        have him : i < m := by rw [hi]; exact Nat.mod_lt _ h0
        obtain ⟨x, hx⟩ := at_some (show i < bs.length by rw [HM.out]; exact him)
        have hxb := hB.some hx
        have HX := Lib.hid hx
        have HB0 := Lib.hid hb0
        have HI := Lib.hid hi
        have hqb : 0 ≤ (q : Int) % (m : Int) ∧ (q : Int) % (m : Int) < (m : Int) := ⟨Int.emod_nonneg _ (by omega), Int.emod_lt_of_pos _ (by omega)⟩
        have hqb2 : (q : Int) % (m : Int) < (m : Int) + 1 := by omega
        have hy := xor_u8_byte hxb hby
        have hBy : Bytes (bs.set i (bits .xor .u8 x by_)) := bytes_set hB hy.1
        have hne : crc (bs.set i (bits .xor .u8 x by_)) ≠ crc bs := crc_set hB (by rw [HM.out]; exact him) hy.1 (by rw [hx]; intro h; exact hb0 (hy.2 (Option.some.inj h).symm))
        have hne' : (((crc (bs.set i (bits .xor .u8 x by_)) : Nat) : Int) == ((crc bs : Nat) : Int)) = false := by rw [beq_eq_false_iff_ne]; omega
        have HNE := Lib.hid hne
        clear hx hb0 hi hne hy
        go_enter Try.func3, Try.ntmps3
        go_wp2_with (first
          | (go_at_call 10; refine (sum_any (xs := bs.set i (bits .xor .u8 x by_)) (by rw [HI.out]; exact set_rd S4 (by rw [HM.out, ← HI.out]; exact him)) (by rw [List.length_set]; exact HM.out) hBy (by omega)).mono ?_; rintro e w5 ⟨rfl, rfl⟩)
          | (go_at_call 9; refine (roomy_any S0 (fun w' h => hR.below h.below) HM.out (by omega)).mono ?_; rintro e w1 ⟨ad, cap, rfl, S1⟩; obtain ⟨hcap, hRf, hRw, hRp⟩ := HC.out _ _ _ _ S1)
          | (go_at_call 10; refine (sum_any hRw HM.out hB (by omega)).mono ?_; rintro e w2 ⟨rfl, rfl⟩)
          | (go_at_call 11; refine (refSum_any hRp HM.out hB (by omega)).mono ?_; rintro e w3 ⟨rfl, rfl⟩)
          | (go_at_call 12; refine (stands_any hRf hRp (by rw [HM.out]) HM.out hcap (by omega)).mono ?_; rintro e w4 ⟨rfl, hq⟩; have S4 := S1.quiet hq; clear hq; obtain ⟨b, off, rfl⟩ := S4.own_addr; obtain ⟨c4, f4⟩ := S4.own_cell (i := q % m) (u := .int .u8 x) (by rw [← HI.out]; exact cell_prefix HX.out))
          | (go_at_call 13; refine (known_any (set_sat S4 (by rw [HM.out, ← HI.out]; exact him))).mono ?_; rintro e w6 ⟨rfl, S6⟩))
        go_ret
        exact ⟨rfl, S6.below⟩
end Go.Proofs.Ytbkieoblhacngaa
