/-
  Chapter 1's document: its Reader's numbers.
-/
import Derived.Test.YtdgalljalcediaaFR1R
import Derived.StillTailTactics
import Derived.Deep.DeepCutAuto
import Derived.Deep.CutBlock
namespace Go.Proofs.Ytdgalljalcediaa
open Go.RowKit Go.Sep Go.Oct

theorem one_had {bs : List Int} {e0 : Int} (h : e0 ≠ 0) : tk 1 bs e0 = ([], bs, e0) := tk_had h
theorem one_nil : tk 1 [] 0 = ([], [], 2) := tk_short (by decide)
theorem one_cons (c : Int) (r : List Int) : tk 1 (c :: r) 0 = ([c], r, 0) := by rw [tk_enough (by simp)]; rfl
theorem r1_err {W0 : World} {L : List Asn} : Rest W0 L none 0 0 [] := ⟨fun _ _ => Rd.nil _ _, rfl, Nat.le_refl _, by unfold maxLen; omega, fun x hx => by simp at hx⟩

set_option maxRecDepth 100000 in
set_option maxHeartbeats 1600000 in
theorem r1Num_any {W0 w : World} {K L : List Asn} (hK : ∀ w', Sat W0 w' L → Sat W0 w' K) {p : Nat} {ao : Option Addr} {m cap : Nat} {bs : List Int} {e0 : Int} (H : Rest W0 K ao m cap bs) (h0 : e0 ≠ 0 → bs = []) (S : Sat W0 w (R1 p ao m cap e0 :: L)) :
    Calls Try.prog 33 #[.pointer (some ⟨p, 0, none⟩)] w (Given W0 K L p (.int .i64 (rdNum bs e0).1) (rdNum bs e0).2.1 (rdNum bs e0).2.2) := by
  go_enter Try.func33, Try.ntmps33
  go_outline
  go_wp2_with fail
  go_loopw [3, 4] (fun u i wr => ∃ (k : Nat) (x : Int) (ao : Option Addr) (m cap : Nat) (ys : List Int), k ≤ 10 ∧ i = .int .i64 k ∧ u = .int .u64 x ∧ Rest W0 K ao m cap ys ∧ (e0 ≠ 0 → ys = []) ∧ (k < 10 → 0 ≤ x ∧ x < 128 ^ k) ∧ Sat W0 wr (R1 p ao m cap e0 :: L) ∧ Hid (rdNum bs e0 = rdNumFrom k x ys e0)) (fun _ i _ => 10 - (intOf i).toNat)
  case atStart => exact ⟨0, 0, ao, m, cap, bs, by omega, rfl, rfl, H, h0, fun _ => ⟨by omega, by decide⟩, S, rfl⟩
  case round =>
    clear H h0 S
    obtain ⟨k, x, ao, m, cap, ys, hk, rfl, rfl, H, h0, hxx, S1, HE⟩ := hrel
    by_cases hlt : k < 10
    · obtain ⟨hx0, hx1⟩ := hxx hlt
      clear hxx
      by_cases he : e0 = 0
      · subst he
        cases ys with
        | nil =>
          have HT := Lib.hid one_nil
          go_wp2_with (go_at_call 57; refine (r1Byte_any hK H h0 S1).mono ?_; unfold Given; rintro e w1 ⟨a1, n1, c1, H1, rfl, S2⟩; rw [HT.out] at H1 S2 ⊢; have d1 := Sat.cell (p := p) (cs := [.slice a1 n1 c1, .int .i64 2]) S2 0 rfl 1; simp only [List.getElem?_cons_zero, List.getElem?_cons_succ] at d1)
          go_ret
          exact ⟨a1, n1, c1, by rw [HE.out, rdNumFrom_nil hlt]; exact H1, by rw [HE.out, rdNumFrom_nil hlt]; rfl, by rw [HE.out, rdNumFrom_nil hlt]; exact S2⟩
        | cons cc r =>
          have hcc := H.bytes cc (by simp)
          have HT := Lib.hid (one_cons cc r)
          have HLC : Hid (le [cc] = cc) := by show cc + 256 * 0 = cc; omega
          by_cases h128 : cc < 128
          · have hgt : ¬ 127 < cc := by omega
            have hk9 : k < 9 ∨ (k = 9 ∧ cc ≤ 1) ∨ (k = 9 ∧ 1 < cc) := by omega
            by_cases hbad : (k = 9 ∧ 1 < cc) ∨ (0 < k ∧ cc = 0)
            · have HB := Lib.hid hbad
              have hfin : ∀ (wz : World), Sat W0 wz (R1 p none 0 0 3 :: L) → Given W0 K L p (.int .i64 (rdNum bs 0).1) (rdNum bs 0).2.1 (rdNum bs 0).2.2 (.returned (.int .i64 0)) wz := by
                intro wz hS
                rw [HE.out, rdNumFrom_bad hlt HB.out]
                exact ⟨none, 0, 0, r1_err, rfl, hS⟩
              have HFIN := Lib.hid hfin
              have h9' : (((k : Int) == 9) = true ∧ 1 < cc) ∨ ((0 < k ∧ (cc == 0) = true ∧ ¬ 1 < cc) ∧ ((k : Int) == 9) = true) ∨ ((0 < k ∧ (cc == 0) = true) ∧ ((k : Int) == 9) = false) := by
                rcases hbad with ⟨h9, h1c⟩ | ⟨hk0, hcz⟩
                · exact .inl ⟨by rw [beq_iff_eq]; omega, h1c⟩
                · by_cases h9 : k = 9
                  · exact .inr (.inl ⟨⟨hk0, by rw [beq_iff_eq]; exact hcz, by omega⟩, by rw [beq_iff_eq]; omega⟩)
                  · exact .inr (.inr ⟨⟨hk0, by rw [beq_iff_eq]; exact hcz⟩, by rw [beq_eq_false_iff_ne]; omega⟩)
              clear hbad hfin hk9
              rcases h9' with ⟨h9, h1c⟩ | ⟨⟨hk0, hcz, h1c⟩, h9⟩ | ⟨⟨hk0, hcz⟩, h9⟩
              all_goals
                go_wp2_with (go_at_call 57; refine (r1Byte_any hK H h0 S1).mono ?_; unfold Given; rintro e w1 ⟨a1, n1, c1, H1, rfl, S2⟩; rw [HT.out] at H1 S2 ⊢; rw [HLC.out]; have S2' : Sat W0 w1 (blk p [.slice a1 n1 c1, .int .i64 0] 82 :: L) := S2; have d0 := S2'.cell 0 rfl 0; have d1 := S2'.cell 0 rfl 1; have f0 := S2'.frozen 0 rfl 0; have f1 := S2'.frozen 0 rfl 1; simp only [List.getElem?_cons_zero, List.getElem?_cons_succ] at d0 d1)
                go_ret
                have S3 := (S2'.setCell 0 (k := 1) (v := .int .i64 3) rfl).setCell 0 (k := 0) (v := .slice none 0 0) rfl
                exact HFIN.out _ S3
            · have HK : Hid (k < 9 ∨ (k = 9 ∧ cc ≤ 1)) := by show _ ∨ _; omega
              have HN := Lib.hid hbad
              have h9' : (((k : Int) == 9) = true ∧ cc ≤ 1) ∨ ((k : Int) == 9) = false := by
                by_cases h9 : k = 9
                · exact .inl ⟨by rw [beq_iff_eq]; omega, by omega⟩
                · exact .inr (by rw [beq_eq_false_iff_ne]; omega)
              have hz' : (0 < k ∧ (cc == 0) = false) ∨ k ≤ 0 := by
                by_cases hk0 : 0 < k
                · exact .inl ⟨hk0, by rw [beq_eq_false_iff_ne]; intro h; exact hbad (.inr ⟨hk0, h⟩)⟩
                · exact .inr (by omega)
              clear hbad hk9
              go_upto_region 9 with (go_at_call 57; refine (r1Byte_any hK H h0 S1).mono ?_; unfold Given; rintro e w1 ⟨a1, n1, c1, H1, rfl, S2⟩; rw [HT.out] at H1 S2 ⊢; rw [HLC.out]; have S2' : Sat W0 w1 (blk p [.slice a1 n1 c1, .int .i64 0] 82 :: L) := S2; have d0 := S2'.cell 0 rfl 0; have d1 := S2'.cell 0 rfl 1; have f0 := S2'.frozen 0 rfl 0; have f1 := S2'.frozen 0 rfl 1; simp only [List.getElem?_cons_zero, List.getElem?_cons_succ] at d0 d1)
              rw [acc_num hx0 hx1 hcc.1 hcc.2 HK.out]
              have hres : rdNum bs 0 = ((if (x + cc % 128 * 128 ^ k) % 2 = 0 then (x + cc % 128 * 128 ^ k) / 2 else -((x + cc % 128 * 128 ^ k) / 2) - 1), r, 0) := by
                rw [HE.out, rdNumFrom_last hlt HN.out h128, Int.emod_eq_of_lt hcc.1 h128]
              have hy0 : 0 ≤ x + cc % 128 * 128 ^ k := by have := (acc_bd hcc.1 HK.out).1; omega
              have hyt := acc_top hx1 hcc.1 HK.out
              generalize x + cc % 128 * 128 ^ k = y at hres hy0 hyt ⊢
              have HRES := Lib.hid hres
              clear hres
              by_cases hev : y % 2 = 0
              · have hz : (y % 2 == 0) = true := by simpa using hev
                have hval : Hid ((if y % 2 = 0 then y / 2 else -(y / 2) - 1) = y / 2) := if_pos hev
                clear hev
                rcases h9' with ⟨h9, hc1⟩ | h9
                all_goals
                  rcases hz' with ⟨hk0, hcz⟩ | hk0
                  all_goals
                    go_wp2_with fail
                    go_ret
                    exact ⟨a1, n1, c1, by rw [HRES.out]; exact H1, by rw [HRES.out, hval.out]; rfl, by rw [HRES.out]; exact S2⟩
              · have hz : (y % 2 == 0) = false := by simpa using hev
                have hval : Hid ((if y % 2 = 0 then y / 2 else -(y / 2) - 1) = -(y / 2) - 1) := if_neg hev
                clear hev
                rcases h9' with ⟨h9, hc1⟩ | h9
                all_goals
                  rcases hz' with ⟨hk0, hcz⟩ | hk0
                  all_goals
                    go_wp2_with fail
                    go_ret
                    exact ⟨a1, n1, c1, by rw [HRES.out]; exact H1, by rw [HRES.out, hval.out]; rfl, by rw [HRES.out]; exact S2⟩
          · have hgt : 127 < cc := by omega
            by_cases h9 : k < 9
            · have hbad : ¬ ((k = 9 ∧ 1 < cc) ∨ (0 < k ∧ cc = 0)) := by omega
              have HE' : Hid (rdNum bs 0 = rdNumFrom (k + 1) (x + cc % 128 * 128 ^ k) r 0) := by show _ = _; rw [HE.out, rdNumFrom_more hlt hbad (by omega)]
              have hy0 : 0 ≤ x + cc % 128 * 128 ^ k := by have := (acc_bd hcc.1 (.inl h9)).1; omega
              have hy1 := acc_lt hx1 hcc.1 h9
              have HAC := Lib.hid (acc_num hx0 hx1 hcc.1 hcc.2 (.inl h9))
              clear hbad
              go_wp2_with (go_at_call 57; refine (r1Byte_any hK H h0 S1).mono ?_; unfold Given; rintro e w1 ⟨a1, n1, c1, H1, rfl, S2⟩; rw [HT.out] at H1 S2 ⊢; rw [HLC.out]; have S2' : Sat W0 w1 (blk p [.slice a1 n1 c1, .int .i64 0] 82 :: L) := S2; have d0 := S2'.cell 0 rfl 0; have d1 := S2'.cell 0 rfl 1; have f0 := S2'.frozen 0 rfl 0; have f1 := S2'.frozen 0 rfl 1; simp only [List.getElem?_cons_zero, List.getElem?_cons_succ] at d0 d1)
              rw [HAC.out]
              go_roundw
              case rel => exact ⟨k + 1, x + cc % 128 * 128 ^ k, a1, n1, c1, r, by omega, by go_num, rfl, H1, fun h => absurd rfl h, fun _ => ⟨hy0, hy1⟩, S2, HE'⟩
              case measure => simp [intOf]; omega
            · have HE' : ∀ z : Int, Hid (rdNum bs 0 = rdNumFrom (k + 1) z r 0) := by
                intro z
                show _ = _
                rw [HE.out, rdNumFrom_bad hlt (.inl ⟨by omega, by omega⟩), rdNumFrom_ten (by omega)]
              go_wp2_with (go_at_call 57; refine (r1Byte_any hK H h0 S1).mono ?_; unfold Given; rintro e w1 ⟨a1, n1, c1, H1, rfl, S2⟩; rw [HT.out] at H1 S2 ⊢; rw [HLC.out]; have S2' : Sat W0 w1 (blk p [.slice a1 n1 c1, .int .i64 0] 82 :: L) := S2; have d0 := S2'.cell 0 rfl 0; have d1 := S2'.cell 0 rfl 1; have f0 := S2'.frozen 0 rfl 0; have f1 := S2'.frozen 0 rfl 1; simp only [List.getElem?_cons_zero, List.getElem?_cons_succ] at d0 d1)
              go_roundw
              case rel => exact ⟨k + 1, _, a1, n1, c1, r, by omega, by go_num, rfl, H1, fun h => absurd rfl h, fun h => absurd h (by omega), S2, HE' _⟩
              case measure => simp [intOf]; omega
      · have HT := Lib.hid (one_had (bs := ys) he)
        have hz : (e0 != 0) = true := by simpa using he
        go_wp2_with (go_at_call 57; refine (r1Byte_any hK H h0 S1).mono ?_; unfold Given; rintro e w1 ⟨a1, n1, c1, H1, rfl, S2⟩; rw [HT.out] at H1 S2 ⊢; have d1 := Sat.cell (p := p) (cs := [.slice a1 n1 c1, .int .i64 e0]) S2 0 rfl 1; simp only [List.getElem?_cons_zero, List.getElem?_cons_succ] at d1)
        go_ret
        exact ⟨a1, n1, c1, by rw [HE.out, rdNumFrom_err hlt he]; exact H1, by rw [HE.out, rdNumFrom_err hlt he]; rfl, by rw [HE.out, rdNumFrom_err hlt he]; exact S2⟩
    · have S' : Sat W0 wr (blk p [.slice ao m cap, .int .i64 e0] 82 :: L) := S1
      have d0 := S'.cell 0 rfl 0
      have d1 := S'.cell 0 rfl 1
      have f0 := S'.frozen 0 rfl 0
      have f1 := S'.frozen 0 rfl 1
      simp only [List.getElem?_cons_zero, List.getElem?_cons_succ] at d0 d1
      have S2 := (S'.setCell 0 (k := 1) (v := .int .i64 3) rfl).setCell 0 (k := 0) (v := .slice none 0 0) rfl
      go_wp2_with fail
      go_ret
      exact ⟨none, 0, 0, by rw [HE.out, rdNumFrom_ten (by omega)]; exact r1_err, by rw [HE.out, rdNumFrom_ten (by omega)]; rfl, by rw [HE.out, rdNumFrom_ten (by omega)]; exact S2⟩
end Go.Proofs.Ytdgalljalcediaa
