/-
  RbZ, RbLwRight in one text (wip/tools/joint.py)
-/
import Derived.Test.YtjdeeloemhjbhaaRbJ2

section
namespace Go.Proofs.Ytjdeeloemhjbhaa
open Go.RowKit Go.Sep Go.Vm Go.Inp

section
variable {limit d t : Nat} {x y st wr : Int}
theorem BK_sv0 (hl : 1 ≤ limit ∧ limit ≤ 200) (hx : 0 ≤ x ∧ x < 65536) (hy : 0 ≤ y ∧ y < 65536) (hd : d ≤ limit) (ht : t ≤ limit) (h0 : 0 < t) :
    ∃ sd wn, svals ((BK limit 0).now (BS limit 0 d t x y st wr)) = bsv d (d * x) (d * y) sd (decide (d = limit)) wn := by
  have h := BK_st (d := d) (t := t) hl (.inl rfl : Seat 0) hx hy hd
  rw [AQ_used (.inl rfl) hd ht h0 (Nat.le_refl _), if_pos rfl, (sL_replicate x y d).1, (sL_replicate x y d).2] at h
  have e := bsv_eq h.2.2
  rw [h.1, h.2.1] at e
  exact ⟨_, _, e⟩
theorem BK_sv1 (hl : 1 ≤ limit ∧ limit ≤ 200) (hx : 0 ≤ x ∧ x < 65536) (hy : 0 ≤ y ∧ y < 65536) (hd : d ≤ limit) (ht : t ≤ limit) (h0 : 0 < t) :
    ∃ sd wn, svals ((BK limit 1).now (BS limit 1 d t x y st wr)) = bsv d (d * y) (d * x) sd (decide (d = limit)) wn := by
  have h := BK_st (d := d) (t := t) hl (.inr rfl : Seat 1) hx hy hd
  rw [AQ_used (.inr rfl) hd ht h0 (Nat.le_refl _), if_neg (by decide), (sL_replicate y x d).1, (sL_replicate y x d).2] at h
  have e := bsv_eq h.2.2
  rw [h.1, h.2.1] at e
  exact ⟨_, _, e⟩
theorem BK_svs {me : Int} (h : Seat me) (hl : 1 ≤ limit ∧ limit ≤ 200) (hx : 0 ≤ x ∧ x < 65536) (hy : 0 ≤ y ∧ y < 65536) (hd : d ≤ limit) (ht : t ≤ limit) :
    ∃ a b sd wn, svals ((BK limit me).sure (BS limit me d t x y st wr)) = bsv (min d t : Nat) a b sd (decide (min d t = limit)) wn := by
  have e : (BK limit me).sure (BS limit me d t x y st wr) = stA bcode limit 20 1 (AQ limit me d t x y) (min d t) := by
    unfold SK.sure; rw [← BK_sureN h hd ht]; rfl
  have h2 := BK_st (d := d) (t := t) hl h hx hy (show min d t ≤ limit by omega)
  have e2 := bsv_eq h2.2.2
  rw [h2.1, h2.2.1] at e2
  rw [e]
  exact ⟨_, _, _, _, e2⟩
theorem BK_known {me : Int} (h : Seat me) (ht : t ≤ limit) : (BS limit me d t x y st wr).q.known (1 - me) = t := by
  rw [known_row h.other]
  show lead ((AQ limit me d t x y).row (1 - me)).kn = t
  rw [AQ_other h, cstR_lead ht]
theorem BK_same {me : Int} (h : Seat me) (hd : d ≤ limit) : (BK limit me).sure (BS limit me d d x y st wr) = (BK limit me).now (BS limit me d d x y st wr) := by
  show stA bcode limit 20 1 (AQ limit me d d x y) (sureN (AQ limit me d d x y) d) = stA bcode limit 20 1 (AQ limit me d d x y) d
  rw [BK_sureN h hd hd, Nat.min_self]
end
end Go.Proofs.Ytjdeeloemhjbhaa
end

section
namespace Go.Proofs.Ytjdeeloemhjbhaa
open Go.RowKit Go.Sep Go.Vm Go.Inp
set_option linter.unusedSimpArgs false

set_option maxRecDepth 100000 in
set_option maxHeartbeats 6400000 in
theorem RollbackRight_walk {w : World} (a v b : Int) (hv : 0 ≤ v ∧ v < 65536) :
    Calls Try.prog 3 #[.int .i64 a, .int .u16 v, .int .i64 b] w fun e w' => e = .returned (.bool true) ∧ Below w.heap.size w w' := by
  have S0 := Sat.start w
  by_cases b0 : a < 1
  · have b0' : decide (a < 1) = true := decide_eq_true b0
    clear b0
    go_enter Try.func3, Try.ntmps3
    go_wp2_with (first | (go_at_call 7; refine (rknown_any S0).mono ?_; rintro e w8 ⟨rfl, S8⟩))
    go_ret
    exact ⟨rfl, S8.below⟩
  have b0' : decide (a < 1) = false := decide_eq_false b0
  by_cases b1 : 60 < a
  · have b1' : decide (60 < a) = true := decide_eq_true b1
    clear b0 b1
    go_enter Try.func3, Try.ntmps3
    go_wp2_with (first | (go_at_call 7; refine (rknown_any S0).mono ?_; rintro e w8 ⟨rfl, S8⟩))
    go_ret
    exact ⟨rfl, S8.below⟩
  have b1' : decide (60 < a) = false := decide_eq_false b1
  by_cases b2 : b < 0
  · have b2' : decide (b < 0) = true := decide_eq_true b2
    clear b0 b1 b2
    go_enter Try.func3, Try.ntmps3
    go_wp2_with (first | (go_at_call 7; refine (rknown_any S0).mono ?_; rintro e w8 ⟨rfl, S8⟩))
    go_ret
    exact ⟨rfl, S8.below⟩
  have b2' : decide (b < 0) = false := decide_eq_false b2
  by_cases b3 : 7 < b
  · have b3' : decide (7 < b) = true := decide_eq_true b3
    clear b0 b1 b2 b3
    go_enter Try.func3, Try.ntmps3
    go_wp2_with (first | (go_at_call 7; refine (rknown_any S0).mono ?_; rintro e w8 ⟨rfl, S8⟩))
    go_ret
    exact ⟨rfl, S8.below⟩
  have b3' : decide (7 < b) = false := decide_eq_false b3
  obtain ⟨n, rfl⟩ : ∃ n : Nat, a = n := ⟨a.toNat, by omega⟩
  obtain ⟨late, rfl⟩ : ∃ late : Nat, b = late := ⟨b.toNat, by omega⟩
  have hn : 1 ≤ n ∧ n ≤ 60 := by omega
  have hl7 : late ≤ 7 := by omega
  go_enter Try.func3, Try.ntmps3
  go_wp2_with (first
    | (go_at_call 9; refine (radder_any S0 100).mono ?_; rintro e w2 ⟨g, rfl, S2⟩)
    | (go_at_call 8; refine (bNew_any (limit := 100) (me := 0) S2 (by omega) (.inl rfl) 1 v).mono ?_; rintro e w3 ⟨s, rfl, S3⟩)
    | (go_at_call 10; refine (bRem_any S3 (by omega) (by omega) (.inl rfl) (by omega) hv (by omega) (by omega) (by omega) (.inl (by omega))).mono ?_; rintro e w4 ⟨rfl, S4⟩))
  clear b0 b1 b2 b3 b0' b1' b2' b3' S0 S2 S3
  go_loopw [9, 10] (fun tv iv wr => ∃ i t : Nat, i ≤ n ∧ iv = .int .i64 i ∧ tv = .int .i64 t ∧ Hid (1 ≤ t ∧ i ≤ t + late ∧ t ≤ max 1 i) ∧ Sat w wr (SS s (BK 100 0) (BS 100 0 i t 1 v i 0) (i + t) :: blk g (insv bcode) 59 :: [])) (fun _ iv _ => n - (intOf iv).toNat)
  case atStart => exact ⟨0, 1, by omega, rfl, rfl, ⟨by omega, by omega, by omega⟩, S4⟩
  case round =>
    clear S4
    obtain ⟨i, t, hi, rfl, rfl, HT, S5⟩ := hrel
    have hT := HT.out
    by_cases hlt : i < n
    · have hd : decide ((i : Int) < (n : Int)) = true := decide_eq_true (by omega)
      have hd' : decide (i < n) = true := decide_eq_true hlt
      have hC := bLoc_any S5 (by omega) (by omega) (.inl rfl) (by omega) hv (by omega) (by omega) (by omega)
      rw [show (i : Int) + 1 = ((i + 1 : Nat) : Int) by omega] at hC
      have HC := Lib.hid hC
      clear hT hC
      go_wp2_with (first
        | (go_at_call 11; refine HC.out.mono ?_; rintro e w6 ⟨rfl, S6⟩))
      clear hd hd' HC S5
      go_loopw [9] (fun tv wr => ∃ t : Nat, tv = .int .i64 t ∧ Hid (1 ≤ t ∧ i ≤ t + late ∧ t ≤ max 1 (i + 1)) ∧ Sat w wr (SS s (BK 100 0) (BS 100 0 (i + 1) t 1 v ((i + 1 : Nat) : Int) 0) (i + t + 1) :: blk g (insv bcode) 59 :: [])) (fun tv _ => i + 2 - (intOf tv).toNat)
      case atStart => exact ⟨t, rfl, ⟨HT.out.1, HT.out.2.1, by have := HT.out.2.2; omega⟩, S6⟩
      case round =>
        clear S6 HT
        obtain ⟨u, rfl, HT, S7⟩ := hrel
        have hT := HT.out
        have hw1 : IntKind.i64.wrap ((i : Int) + 1) = (i : Int) + 1 := by rw [IntKind.wrap_i64]; omega
        have hw2 : IntKind.i64.wrap ((i : Int) + 1 - (late : Int)) = (i : Int) + 1 - (late : Int) := by rw [IntKind.wrap_i64]; omega
        by_cases hu : (u : Int) < (i : Int) + 1 - (late : Int)
        · have hd : decide ((u : Int) < (i : Int) + 1 - (late : Int)) = true := decide_eq_true hu
          have hw3 : IntKind.i64.wrap ((u : Int) + 1) = (u : Int) + 1 := by rw [IntKind.wrap_i64]; omega
          have HC := Lib.hid (bRem_any S7 (by omega) (by omega) (.inl rfl) (by omega) hv (by omega) (by omega) (by omega) (.inr (by omega)))
          clear hT
          go_wp2_with (first
            | (go_at_call 10; refine HC.out.mono ?_; rintro e w8 ⟨rfl, S8⟩))
          exact ⟨⟨u + 1, by go_num, ⟨by omega, by have := HT.out; omega, by have := HT.out; omega⟩, S8⟩, by have := HT.out; simp [intOf]; omega⟩
        · have hd : decide ((u : Int) < (i : Int) + 1 - (late : Int)) = false := decide_eq_false hu
          clear hT
          go_wp2_with fail
          exact ⟨⟨i + 1, u, by omega, by go_num, rfl, ⟨HT.out.1, by omega, by have := HT.out; omega⟩, by rw [show i + 1 + u = i + u + 1 by omega]; exact S7⟩, by simp [intOf]; omega⟩
    · have hd : decide ((i : Int) < (n : Int)) = false := decide_eq_false (by omega)
      have hd' : decide (i < n) = false := decide_eq_false hlt
      obtain rfl : i = n := by omega
      obtain ⟨sd, wn, hsv⟩ := BK_sv0 (limit := 100) (d := i) (t := t) (x := 1) (y := v) (st := i) (wr := 0) (by omega) (by omega) hv (by omega) (by omega) (by omega)
      rw [Int.mul_one] at hsv
      have hb1 : 0 ≤ (i : Int) * v := Int.mul_nonneg (by omega) hv.1
      have hb2 : (i : Int) * v ≤ 60 * 65535 := Int.mul_le_mul (by omega) (by omega) hv.1 (by omega)
      obtain ⟨p, hp⟩ : ∃ p, (i : Int) * v = p := ⟨_, rfl⟩
      rw [hp] at hsv hb1 hb2
      have hc1 : IntKind.i32.wrap (i : Int) = (i : Int) := by rw [IntKind.wrap_i32]; omega
      have hc2 : IntKind.i32.wrap v = v := by rw [IntKind.wrap_i32]; omega
      have hc3 : IntKind.i32.wrap p = p := by rw [IntKind.wrap_i32]; omega
      have HSV := Lib.hid hsv
      have hf1 := fld1 i i p sd (decide (i = 100)) wn
      have hix := idx1 i p
      clear hT hsv hb1 hb2 hlt hi
      go_wp2_with (first
        | (go_at_call 12; refine (sWork_any S5).mono ?_; rintro e w6 ⟨rfl, S6⟩; rw [show (BS 100 0 i t 1 v i 0).st = (i : Int) from rfl, show (BS 100 0 i t 1 v i 0).wr = 0 from rfl])
        | (go_at_call 13; refine (sNow_any S6).mono ?_; rw [HSV.out]; rintro e w7 ⟨rfl, S7⟩)
        | (go_at_call 7; refine (rknown_any S7).mono ?_; rintro e w8 ⟨rfl, S8⟩))
      go_ret
      exact ⟨rfl, S8.below⟩
end Go.Proofs.Ytjdeeloemhjbhaa
end
