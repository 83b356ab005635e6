/-
  RbZ, RbLwAhead in one text (wip/tools/joint.py)
-/
import Derived.Test.YtjdeeloemhjbhaaRbJ2

section
namespace Go.Proofs.Ytjdeeloemhjbhaa
open Go.RowKit Go.Sep Go.Vm Go.Inp

section
variable {limit d t : Nat} {x y st wr : Int}
theorem BK_sv0 (hl : 1 ≤ limit ∧ limit ≤ 200) (hx : 0 ≤ x ∧ x < 65536) (hy : 0 ≤ y ∧ y < 65536) (hd : d ≤ limit) (ht : t ≤ limit) (h0 : 0 < t) :
    ∃ sd wn, svals ((BK limit 0).now (BS limit 0 d t x y st wr)) = bsv d (d * x) (d * y) sd (decide (d = limit)) wn := by
  have h := BK_st (d := d) (t := t) hl (.inl rfl : Seat 0) hx hy hd
  rw [AQ_used (.inl rfl) hd ht h0 (Nat.le_refl _), if_pos rfl, (sL_replicate x y d).1, (sL_replicate x y d).2] at h
  have e := bsv_eq h.2.2
  rw [h.1, h.2.1] at e
  exact ⟨_, _, e⟩
theorem BK_sv1 (hl : 1 ≤ limit ∧ limit ≤ 200) (hx : 0 ≤ x ∧ x < 65536) (hy : 0 ≤ y ∧ y < 65536) (hd : d ≤ limit) (ht : t ≤ limit) (h0 : 0 < t) :
    ∃ sd wn, svals ((BK limit 1).now (BS limit 1 d t x y st wr)) = bsv d (d * y) (d * x) sd (decide (d = limit)) wn := by
  have h := BK_st (d := d) (t := t) hl (.inr rfl : Seat 1) hx hy hd
  rw [AQ_used (.inr rfl) hd ht h0 (Nat.le_refl _), if_neg (by decide), (sL_replicate y x d).1, (sL_replicate y x d).2] at h
  have e := bsv_eq h.2.2
  rw [h.1, h.2.1] at e
  exact ⟨_, _, e⟩
theorem BK_svs {me : Int} (h : Seat me) (hl : 1 ≤ limit ∧ limit ≤ 200) (hx : 0 ≤ x ∧ x < 65536) (hy : 0 ≤ y ∧ y < 65536) (hd : d ≤ limit) (ht : t ≤ limit) :
    ∃ a b sd wn, svals ((BK limit me).sure (BS limit me d t x y st wr)) = bsv (min d t : Nat) a b sd (decide (min d t = limit)) wn := by
  have e : (BK limit me).sure (BS limit me d t x y st wr) = stA bcode limit 20 1 (AQ limit me d t x y) (min d t) := by
    unfold SK.sure; rw [← BK_sureN h hd ht]; rfl
  have h2 := BK_st (d := d) (t := t) hl h hx hy (show min d t ≤ limit by omega)
  have e2 := bsv_eq h2.2.2
  rw [h2.1, h2.2.1] at e2
  rw [e]
  exact ⟨_, _, _, _, e2⟩
theorem BK_known {me : Int} (h : Seat me) (ht : t ≤ limit) : (BS limit me d t x y st wr).q.known (1 - me) = t := by
  rw [known_row h.other]
  show lead ((AQ limit me d t x y).row (1 - me)).kn = t
  rw [AQ_other h, cstR_lead ht]
theorem BK_same {me : Int} (h : Seat me) (hd : d ≤ limit) : (BK limit me).sure (BS limit me d d x y st wr) = (BK limit me).now (BS limit me d d x y st wr) := by
  show stA bcode limit 20 1 (AQ limit me d d x y) (sureN (AQ limit me d d x y) d) = stA bcode limit 20 1 (AQ limit me d d x y) d
  rw [BK_sureN h hd hd, Nat.min_self]
end
end Go.Proofs.Ytjdeeloemhjbhaa
end

section
namespace Go.Proofs.Ytjdeeloemhjbhaa
open Go.RowKit Go.Sep Go.Vm Go.Inp
set_option linter.unusedSimpArgs false

set_option maxRecDepth 100000 in
set_option maxHeartbeats 6400000 in
theorem RollbackAhead_walk {w : World} (a : Int) :
    Calls Try.prog 5 #[.int .i64 a] w fun e w' => e = .returned (.bool true) ∧ Below w.heap.size w w' := by
  have S0 := Sat.start w
  by_cases b0 : a < 0
  · have b0' : decide (a < 0) = true := decide_eq_true b0
    clear b0
    go_enter Try.func5, Try.ntmps5
    go_wp2_with (first | (go_at_call 7; refine (lknown_any S0).mono ?_; rintro e w8 ⟨rfl, S8⟩))
    go_ret
    exact ⟨rfl, S8.below⟩
  have b0' : decide (a < 0) = false := decide_eq_false b0
  by_cases b1 : 8 < a
  · have b1' : decide (8 < a) = true := decide_eq_true b1
    clear b0 b1
    go_enter Try.func5, Try.ntmps5
    go_wp2_with (first | (go_at_call 7; refine (lknown_any S0).mono ?_; rintro e w8 ⟨rfl, S8⟩))
    go_ret
    exact ⟨rfl, S8.below⟩
  have b1' : decide (8 < a) = false := decide_eq_false b1
  obtain ⟨tell, rfl⟩ : ∃ n : Nat, a = n := ⟨a.toNat, by omega⟩
  have ht8 : tell ≤ 8 := by omega
  go_enter Try.func5, Try.ntmps5
  go_wp2_with (first
    | (go_at_call 9; refine (radder_any S0 100).mono ?_; rintro e w2 ⟨g, rfl, S2⟩)
    | (go_at_call 8; refine (bNew_any (limit := 100) (me := 1) S2 (by omega) (.inr rfl) 2 3).mono ?_; rintro e w3 ⟨s, rfl, S3⟩))
  clear b0 b1 b0' b1' S0 S2
  go_loopw [5, 6] (fun nv iv wr => ∃ (i n : Nat) (st : Int), i ≤ 20 ∧ iv = .int .i64 i ∧ nv = .int .i64 n ∧ Hid (n = min i 8) ∧ Sat w wr (SS s (BK 100 1) (BS 100 1 n 0 2 3 st 0) i :: blk g (insv bcode) 59 :: [])) (fun _ iv _ => 20 - (intOf iv).toNat)
  case atStart => exact ⟨0, 0, 0, by omega, rfl, rfl, rfl, S3⟩
  case round =>
    clear S3
    obtain ⟨i0, n, st, hi, rfl, rfl, HN, S5⟩ := hrel
    have hN := HN.out
    by_cases hlt : i0 < 20
    · have hd : decide ((i0 : Int) < 20) = true := decide_eq_true (by omega)
      have hd' : decide (i0 < 20) = true := decide_eq_true hlt
      by_cases h8 : i0 < 8
      · have HC := Lib.hid (bLoc_any S5 (by omega) (by omega) (.inr rfl) (by omega) (by omega) (by omega) (by omega) (by omega))
        have hn8 : n < 8 := by omega
        clear hN
        go_wp2_with (first
          | (go_at_call 11; refine HC.out.mono ?_; rintro e w6 ⟨rfl, S6⟩))
        exact ⟨⟨i0 + 1, n + 1, _, by omega, by go_num, by go_num, by have := HN.out; show _ = _; omega, S6⟩, by simp [intOf]; omega⟩
      · have HC := Lib.hid (bLocFar_any S5 (by omega) (by omega) (.inr rfl) (by omega) (by omega) (by omega) (by omega) (by omega))
        clear hN
        go_wp2_with (first
          | (go_at_call 11; refine HC.out.mono ?_; rintro e w6 ⟨rfl, S6⟩))
        exact ⟨⟨i0 + 1, n, _, by omega, by go_num, rfl, by have := HN.out; show _ = _; omega, S6⟩, by simp [intOf]; omega⟩
    · have hd : decide ((i0 : Int) < 20) = false := decide_eq_false (by omega)
      have hd' : decide (i0 < 20) = false := decide_eq_false hlt
      have hne : ((n : Int) != 8) = false := by simp; omega
      have HN8 : Hid (n = 8 ∧ i0 = 20) := ⟨by omega, by omega⟩
      clear hN HN hlt hi
      go_wp2_with fail
      clear hd hd' hne
      go_loopw [9] (fun iv wr => ∃ (i : Nat) (st wr2 : Int), i ≤ tell ∧ iv = .int .i64 i ∧ Sat w wr (SS s (BK 100 1) (BS 100 1 n i 2 3 st wr2) (i0 + i) :: blk g (insv bcode) 59 :: [])) (fun iv _ => tell - (intOf iv).toNat)
      case atStart => exact ⟨0, _, _, by omega, rfl, S5⟩
      case round =>
        clear S5
        obtain ⟨i, st, wr2, hi, rfl, S7⟩ := hrel
        by_cases hlt : i < tell
        · have hd : decide ((i : Int) < (tell : Int)) = true := decide_eq_true (by omega)
          have hd' : decide (i < tell) = true := decide_eq_true hlt
          have h8 := HN8.out
          have HC : Hid (Calls Try.prog 10 #[.pointer (some ⟨s, 0, none⟩), .int .i64 i, .int .u16 3] wr fun e w' => e = .returned (.int .i64 0) ∧ ∃ st2 wr3, Sat w w' (SS s (BK 100 1) (BS 100 1 n (i + 1) 2 3 st2 wr3) (i0 + i + 1) :: blk g (insv bcode) 59 :: [])) := by
            by_cases h0 : i = 0
            · subst h0
              refine (bRemWrong_any S7 (by omega) (by omega) (.inr rfl) (by omega) (by omega) (by omega) (by omega)).mono ?_
              rintro e w8 ⟨rfl, S8⟩
              exact ⟨rfl, _, _, S8⟩
            · refine (bRem_any S7 (by omega) (by omega) (.inr rfl) (by omega) (by omega) (by omega) (by omega) (by omega) (.inr (by omega))).mono ?_
              rintro e w8 ⟨rfl, S8⟩
              exact ⟨rfl, _, _, S8⟩
          clear h8
          go_wp2_with (first
            | (go_at_call 10; refine HC.out.mono ?_; rintro e w8 ⟨rfl, st2, wr3, S8⟩))
          exact ⟨⟨i + 1, _, _, by omega, by go_num, S8⟩, by simp [intOf]; omega⟩
        · have hd : decide ((i : Int) < (tell : Int)) = false := decide_eq_false (by omega)
          have hd' : decide (i < tell) = false := decide_eq_false hlt
          obtain rfl : i = tell := by omega
          go_wp2_with fail
          clear hd hd' hlt hi
          go_loopw [5, 10] (fun nv iv wr => ∃ (k n2 : Nat) (st : Int), k ≤ 20 ∧ iv = .int .i64 k ∧ nv = .int .i64 n2 ∧ Hid (n2 = 8 + min k i) ∧ Sat w wr (SS s (BK 100 1) (BS 100 1 n2 i 2 3 st wr2) (i0 + i + k) :: blk g (insv bcode) 59 :: [])) (fun _ iv _ => 20 - (intOf iv).toNat)
          case atStart => exact ⟨0, n, _, by omega, rfl, rfl, by have := HN8.out; show _ = _; omega, S7⟩
          case round =>
            clear S7
            obtain ⟨k, n2, st, hk, rfl, rfl, HN, S9⟩ := hrel
            have hN := HN.out
            have h20 := HN8.out
            by_cases hlt : k < 20
            · have hd : decide ((k : Int) < 20) = true := decide_eq_true (by omega)
              have hd' : decide (k < 20) = true := decide_eq_true hlt
              by_cases h8 : k < i
              · have HC := Lib.hid (bLoc_any S9 (by omega) (by omega) (.inr rfl) (by omega) (by omega) (by omega) (by omega) (by omega))
                have hn8 : n2 < 17 := by omega
                clear hN h20
                go_wp2_with (first
                  | (go_at_call 11; refine HC.out.mono ?_; rintro e w10 ⟨rfl, S10⟩))
                exact ⟨⟨k + 1, n2 + 1, _, by omega, by go_num, by go_num, by have := HN.out; show _ = _; omega, S10⟩, by simp [intOf]; omega⟩
              · have HC := Lib.hid (bLocFar_any S9 (by omega) (by omega) (.inr rfl) (by omega) (by omega) (by omega) (by omega) (by omega))
                clear hN h20
                go_wp2_with (first
                  | (go_at_call 11; refine HC.out.mono ?_; rintro e w10 ⟨rfl, S10⟩))
                exact ⟨⟨k + 1, n2, _, by omega, by go_num, rfl, by have := HN.out; show _ = _; omega, S10⟩, by simp [intOf]; omega⟩
            · have hd : decide ((k : Int) < 20) = false := decide_eq_false (by omega)
              have hd' : decide (k < 20) = false := decide_eq_false hlt
              have hn2 : n2 = 8 + i := by omega
              obtain ⟨a, b, sd, wn, hsv⟩ := BK_svs (limit := 100) (d := n2) (t := i) (x := 2) (y := 3) (st := st) (wr := wr2) (.inr rfl : Seat 1) (by omega) (by omega) (by omega) (by omega) (by omega)
              have hkn := BK_known (limit := 100) (d := n2) (t := i) (x := 2) (y := 3) (st := st) (wr := wr2) (.inr rfl : Seat 1) (by omega)
              rw [show min n2 i = i by omega] at hsv
              have HSV := Lib.hid hsv
              have HKN : Hid ((BS 100 1 n2 i 2 3 st wr2).q.known (1 - (BK 100 1).me) = i) := hkn
              have hf0 := fld0 i a b sd (decide (i = 100)) wn
              have hw8 : IntKind.i64.wrap (8 + (i : Int)) = 8 + (i : Int) := by rw [IntKind.wrap_i64]; omega
              have hq : ((n2 : Int) == 8 + (i : Int)) = true := by simp; omega
              clear hsv hkn hN HN hlt hk hn2 h20
              go_wp2_with (first
                | (go_at_call 15; refine (sNeeds_any S9).mono ?_; rw [HKN.out]; rintro e w10 ⟨rfl, S10⟩)
                | (go_at_call 14; refine (sSure_any S10).mono ?_; rw [HSV.out]; rintro e w11 ⟨rfl, S11⟩)
                | (go_at_call 7; refine (lknown_any S11).mono ?_; rintro e w12 ⟨rfl, S12⟩))
              go_ret
              exact ⟨rfl, S12.below⟩
end Go.Proofs.Ytjdeeloemhjbhaa
end
