/-
  octet: the Reader's methods.
-/
import Derived.Test.YtjdeeloemhjbhaaVOct2
namespace Go.Proofs.Ytjdeeloemhjbhaa
open Go.RowKit Go.Sep Go.Oct

def Taken (W0 : World) (L : List Asn) (p n : Nat) (bs : List Int) (e0 : Int) (e : Ending) (w' : World) : Prop :=
  ∃ ao c xs, Hid (xs = (tk n bs e0).1) ∧ e = .returned (.slice ao xs.length c) ∧ Rd w' ao (bv xs) ∧ (ao = none → c = 0) ∧ Sat W0 w' (Rr p (tk n bs e0).2.1 (tk n bs e0).2.2 :: L)

theorem take_any {W0 w : World} {L : List Asn} {p : Nat} {bs : List Int} {e0 : Int} (S : Sat W0 w (Rr p bs e0 :: L)) (n : Nat) (hn : n ≤ 16777216) :
    Calls Try.prog 53 #[.pointer (some ⟨p, 0, none⟩), .int .i64 n] w (Taken W0 L p n bs e0) := by
  by_cases he : e0 = 0
  · subst he
    by_cases hl : bs.length < n
    · refine (take_short S n hl).mono ?_
      rintro e w' ⟨rfl, S2⟩
      exact ⟨none, 0, [], by rw [tk_lt hl]; rfl, rfl, Rd.nil _ _, fun _ => rfl, by rw [tk_lt hl]; exact S2⟩
    · refine (take_ok S n (by omega) hn).mono ?_
      rintro e w' ⟨ao, c, rfl, hR, h0, S2⟩
      exact ⟨ao, c, bs.take n, by rw [tk_ge (by omega)]; rfl, by rw [List.length_take, Nat.min_eq_left (by omega)], hR, h0, by rw [tk_ge (by omega)]; exact S2⟩
  · refine (take_err S n he).mono ?_
    rintro e w' ⟨rfl, rfl⟩
    exact ⟨none, 0, [], by rw [tk_err he]; rfl, rfl, Rd.nil _ _, fun _ => rfl, by rw [tk_err he]; exact S⟩

set_option maxRecDepth 100000 in
theorem take_none (w : World) (n : Int) : Calls Try.prog 53 #[.pointer none, .int .i64 n] w fun e w' => e = .returned (.slice none 0 0) ∧ w = w' := by
  go_enter Try.func53, Try.ntmps53
  go_wp2_with fail
  go_ret
  exact ⟨rfl, rfl⟩

def Lowed (W0 : World) (L : List Asn) (p n : Nat) (bs : List Int) (e0 : Int) (e : Ending) (w' : World) : Prop :=
  e = .returned (.int .u32 (le (tk n bs e0).1)) ∧ Sat W0 w' (Rr p (tk n bs e0).2.1 (tk n bs e0).2.2 :: L)

set_option maxRecDepth 100000 in
theorem low_none (w : World) (n : Int) : Calls Try.prog 55 #[.pointer none, .int .i64 n] w fun e w' => e = .returned (.int .u32 0) ∧ w = w' := by
  go_enter Try.func55, Try.ntmps55
  go_wp2_with (go_at_call 53; refine (take_none _ _).mono ?_; rintro e w1 ⟨rfl, rfl⟩)
  refine wp_loop_once ?_
  go_wp2
  go_ret
  exact ⟨rfl, rfl⟩

set_option maxRecDepth 100000 in
theorem low_any {W0 w : World} {L : List Asn} {p : Nat} {bs : List Int} {e0 : Int} (S : Sat W0 w (Rr p bs e0 :: L)) (hB : Bytes bs) (n : Nat) (hn : n ≤ 4) :
    Calls Try.prog 55 #[.pointer (some ⟨p, 0, none⟩), .int .i64 n] w (Lowed W0 L p n bs e0) := by
  go_enter Try.func55, Try.ntmps55
  go_wp2_with (go_at_call 53; refine (take_any S n (by omega)).mono ?_; rintro e w1 ⟨ao, c, xs, HX, rfl, hR, h0, S2⟩)
  have hl : xs.length ≤ n := by rw [HX.out]; exact tk_length n bs e0
  have hb : Bytes xs := by rw [HX.out]; exact (tk_bytes (n := n) e0 hB).1
  clear h0
  go_loop [5, 12] (fun v i => ∃ k : Nat, k ≤ xs.length ∧ i = .int .i64 k ∧ v = .int .u32 (le (xs.take k))) (fun _ i => xs.length - (intOf i).toNat)
  case atStart => exact ⟨0, by omega, rfl, rfl⟩
  case round =>
    obtain ⟨k, hk, rfl, rfl⟩ := hrel
    by_cases hlt : k < xs.length
    · obtain ⟨x, hxk⟩ := at_some hlt
      obtain ⟨b, off, rfl, hc⟩ := hR k _ (cell_some hxk)
      have HS := Lib.hid (le_step' hb hxk (by omega))
      have hx := hb.some hxk
      clear hxk hR
      go_wp2
      go_round
      case rel => exact ⟨k + 1, by omega, by go_num, by rw [HS.out]⟩
      case measure => simp [intOf]; omega
    · go_wp2
      go_ret
      refine ⟨?_, S2⟩
      rw [← HX.out, List.take_of_length_le (by omega)]
      rfl

theorem rByte_any {W0 w : World} {L : List Asn} {p : Nat} {bs : List Int} {e0 : Int} (S : Sat W0 w (Rr p bs e0 :: L)) (hB : Bytes bs) :
    Calls Try.prog 40 #[.pointer (some ⟨p, 0, none⟩)] w fun e w' => e = .returned (.int .u8 (le (tk 1 bs e0).1)) ∧ Sat W0 w' (Rr p (tk 1 bs e0).2.1 (tk 1 bs e0).2.2 :: L) := by
  have hb := (tk_bytes (n := 1) e0 hB).1
  have h0 := le_lo hb
  have h1 : le (tk 1 bs e0).1 < 256 := le_top hb (tk_length 1 bs e0) (m := 1)
  go_enter Try.func40, Try.ntmps40
  go_wp2_with (go_at_call 55; refine (low_any S hB 1 (by omega)).mono ?_; rintro e w1 ⟨rfl, S2⟩)
  go_ret
  exact ⟨rfl, S2⟩

theorem rFour_any {W0 w : World} {L : List Asn} {p : Nat} {bs : List Int} {e0 : Int} (S : Sat W0 w (Rr p bs e0 :: L)) (hB : Bytes bs) :
    Calls Try.prog 39 #[.pointer (some ⟨p, 0, none⟩)] w fun e w' => e = .returned (.int .u32 (le (tk 4 bs e0).1)) ∧ Sat W0 w' (Rr p (tk 4 bs e0).2.1 (tk 4 bs e0).2.2 :: L) := by
  go_enter Try.func39, Try.ntmps39
  go_wp2_with (go_at_call 55; refine (low_any S hB 4 (by omega)).mono ?_; rintro e w1 ⟨rfl, S2⟩)
  go_ret
  exact ⟨rfl, S2⟩

def endOf (bs : List Int) (e : Int) : Int := if e = 0 ∧ 0 < bs.length then 3 else e

set_option maxRecDepth 100000 in
theorem end_any {W0 w : World} {L : List Asn} {p : Nat} {bs : List Int} {e0 : Int} (S : Sat W0 w (Rr p bs e0 :: L)) :
    Calls Try.prog 41 #[.pointer (some ⟨p, 0, none⟩)] w fun e w' => e = .returned (.int .i64 (endOf bs e0)) ∧ w = w' := by
  obtain ⟨ao, cap, S'⟩ := Rr_open.1 S
  have c0 := S'.cell 0 rfl 0
  have c1 := S'.cell 0 rfl 1
  simp only [List.getElem?_cons_zero, List.getElem?_cons_succ] at c0 c1
  by_cases he : e0 = 0
  · subst he
    by_cases hl : 0 < bs.length
    · go_enter Try.func41, Try.ntmps41
      go_wp2
      go_ret
      exact ⟨by simp [endOf, hl], rfl⟩
    · go_enter Try.func41, Try.ntmps41
      go_wp2
      go_ret
      exact ⟨by simp [endOf, hl], rfl⟩
  · have hne : (e0 == 0) = false := by simpa using he
    go_enter Try.func41, Try.ntmps41
    go_wp2
    go_ret
    exact ⟨by simp [endOf, he], rfl⟩

/-- a Num as it is taken -/
def Nummed (W0 : World) (L : List Asn) (p : Nat) (bs : List Int) (e0 : Int) (e : Ending) (w' : World) : Prop :=
  e = .returned (.int .i64 (rdNum bs e0).1) ∧ Sat W0 w' (Rr p (rdNum bs e0).2.1 (rdNum bs e0).2.2 :: L)

set_option maxRecDepth 100000 in
theorem rNum_any {W0 w : World} {L : List Asn} {p : Nat} {bs : List Int} {e0 : Int} (S : Sat W0 w (Rr p bs e0 :: L)) (hB : Bytes bs) :
    Calls Try.prog 38 #[.pointer (some ⟨p, 0, none⟩)] w (Nummed W0 L p bs e0) := by
  go_enter Try.func38, Try.ntmps38
  go_wp2_with fail
  go_loopw [3, 7] (fun u i wr => ∃ k : Nat, ∃ x : Int, ∃ ys, k ≤ 10 ∧ i = .int .i64 k ∧ u = .int .u64 x ∧ Bytes ys ∧ 0 ≤ x ∧ x < 128 ^ k ∧ Sat W0 wr (Rr p ys e0 :: L) ∧ Hid (rdNum bs e0 = rdNumFrom k x ys e0)) (fun _ i _ => 10 - (intOf i).toNat)
  case atStart => exact ⟨0, 0, bs, by omega, rfl, rfl, hB, by omega, by decide, S, rfl⟩
  case round =>
    obtain ⟨k, x, ys, hk, rfl, rfl, hys, hx0, hx1, S1, HE⟩ := hrel
    by_cases hlt : k < 10
    · by_cases he : e0 = 0
      · subst he
        cases ys with
        | nil =>
          go_wp2_with (go_at_call 53; refine (take_short S1 1 (by simp)).mono ?_; rintro e w1 ⟨rfl, S2⟩)
          go_ret
          exact ⟨by rw [HE.out, rdNumFrom_nil hlt]; rfl, by rw [HE.out, rdNumFrom_nil hlt]; exact S2⟩
        | cons cc r =>
          have hcc := hys cc (by simp)
          have hys' : Bytes r := fun x hx => hys x (by simp [hx])
          by_cases hbad : (k = 9 ∧ 1 < cc) ∨ (0 < k ∧ cc = 0)
          · have HB : Hid ((k = 9 ∧ 1 < cc) ∨ (0 < k ∧ cc = 0)) := hbad
            rcases hbad with ⟨h9, h1c⟩ | ⟨hk0, hcz⟩
            · have h9' : ((k : Int) == 9) = true := by rw [beq_iff_eq]; omega
              clear h9
              go_wp2_with (first | (go_at_call 53; refine (take_ok S1 1 (by simp) (by omega)).mono ?_; rintro e w1 ⟨ao, c, rfl, hR, h0, S2⟩; obtain ⟨b, off, rfl, hc⟩ := hR 0 (.int .u8 cc) (by simp [bv]); clear hR h0; rw [Nat.add_zero] at hc) | (go_at_call 54; refine (fail_any S2 3).mono ?_; rintro e w2 ⟨rfl, S3⟩))
              go_ret
              exact ⟨by rw [HE.out, rdNumFrom_bad hlt HB.out]; rfl, by rw [HE.out, rdNumFrom_bad hlt HB.out]; exact S3⟩
            · have h9' : ((k : Int) == 9) = true ∨ ((k : Int) == 9) = false := by cases ((k : Int) == 9) <;> simp
              have hcz' : (cc == 0) = true := by rw [beq_iff_eq]; exact hcz
              have hc1 : cc ≤ 1 := by omega
              clear hcz
              rcases h9' with h9' | h9'
              all_goals
                go_wp2_with (first | (go_at_call 53; refine (take_ok S1 1 (by simp) (by omega)).mono ?_; rintro e w1 ⟨ao, c, rfl, hR, h0, S2⟩; obtain ⟨b, off, rfl, hc⟩ := hR 0 (.int .u8 cc) (by simp [bv]); clear hR h0; rw [Nat.add_zero] at hc) | (go_at_call 54; refine (fail_any S2 3).mono ?_; rintro e w2 ⟨rfl, S3⟩))
                go_ret
                exact ⟨by rw [HE.out, rdNumFrom_bad hlt HB.out]; rfl, by rw [HE.out, rdNumFrom_bad hlt HB.out]; exact S3⟩
          · by_cases h128 : cc < 128
            · have hk9 : k < 9 ∨ (k = 9 ∧ cc ≤ 1) := by omega
              have HK : Hid (k < 9 ∨ (k = 9 ∧ cc ≤ 1)) := hk9
              have HN := Lib.hid hbad
              have h9' : (((k : Int) == 9) = true ∧ cc ≤ 1) ∨ ((k : Int) == 9) = false := by
                by_cases h9 : k = 9
                · exact .inl ⟨by rw [beq_iff_eq]; omega, by omega⟩
                · exact .inr (by rw [beq_eq_false_iff_ne]; omega)
              have hz' : (0 < k ∧ (cc == 0) = false) ∨ k ≤ 0 := by
                by_cases hk0 : 0 < k
                · exact .inl ⟨hk0, by rw [beq_eq_false_iff_ne]; intro h; exact hbad (.inr ⟨hk0, h⟩)⟩
                · exact .inr (by omega)
              clear hbad hk9
              rcases h9' with ⟨h9', hcc1⟩ | h9'
              all_goals
                rcases hz' with ⟨hk0, hcz⟩ | hk0
                all_goals
                  go_wp2_with (first | (go_at_call 53; refine (take_ok S1 1 (by simp) (by omega)).mono ?_; rintro e w1 ⟨ao, c, rfl, hR, h0, S2⟩; obtain ⟨b, off, rfl, hc⟩ := hR 0 (.int .u8 cc) (by simp [bv]); clear hR h0; rw [Nat.add_zero] at hc))
                  go_ret
                  rw [acc_num hx0 hx1 hcc.1 hcc.2 HK.out]
                  have hy0 : 0 ≤ x + cc % 128 * 128 ^ k := by have := (acc_bd hcc.1 HK.out).1; omega
                  rw [fin_num hy0 (acc_top hx1 hcc.1 HK.out)]
                  exact ⟨by rw [HE.out, rdNumFrom_last hlt HN.out h128, Int.emod_eq_of_lt hcc.1 h128]; rfl, by rw [HE.out, rdNumFrom_last hlt HN.out h128]; exact S2⟩
            · have h9 : k < 9 := by omega
              have h9' : ((k : Int) == 9) = false := by rw [beq_eq_false_iff_ne]; omega
              have hcz : (cc == 0) = false := by rw [beq_eq_false_iff_ne]; omega
              have HN := Lib.hid hbad
              clear hbad
              by_cases hk0 : 0 < k
              all_goals
                go_wp2_with (first | (go_at_call 53; refine (take_ok S1 1 (by simp) (by omega)).mono ?_; rintro e w1 ⟨ao, c, rfl, hR, h0, S2⟩; obtain ⟨b, off, rfl, hc⟩ := hR 0 (.int .u8 cc) (by simp [bv]); clear hR h0; rw [Nat.add_zero] at hc))
                rw [acc_num hx0 hx1 hcc.1 hcc.2 (.inl h9)]
                have hy0 : 0 ≤ x + cc % 128 * 128 ^ k := by have := (acc_bd hcc.1 (.inl h9)).1; omega
                have hy1 := acc_lt hx1 hcc.1 h9
                have HE' : Hid (rdNum bs 0 = rdNumFrom (k + 1) (x + cc % 128 * 128 ^ k) r 0) := by show _ = _; rw [HE.out, rdNumFrom_more hlt HN.out (by omega)]
                go_roundw
                case rel => exact ⟨k + 1, x + cc % 128 * 128 ^ k, r, by omega, by go_num, rfl, hys', hy0, hy1, S2, HE'⟩
                case measure => simp [intOf]; omega
      · go_wp2_with (go_at_call 53; refine (take_err S1 1 he).mono ?_; rintro e w1 ⟨rfl, rfl⟩)
        go_ret
        exact ⟨by rw [HE.out, rdNumFrom_err hlt he]; rfl, by rw [HE.out, rdNumFrom_err hlt he]; exact S1⟩
    · go_wp2_with (go_at_call 54; refine (fail_any S1 3).mono ?_; rintro e w2 ⟨rfl, S3⟩)
      go_ret
      exact ⟨by rw [HE.out, rdNumFrom_ten (by omega)]; rfl, by rw [HE.out, rdNumFrom_ten (by omega)]; exact S3⟩
end Go.Proofs.Ytjdeeloemhjbhaa
