/-
  The law RollbackTwo, walked (printed by wip/tools/gen/gtwo.py).
-/
import Derived.Test.YtjdeeloemhjbhaaGreatQRbTw
import Derived.Test.YtjdeeloemhjbhaaGreatQLaw0

namespace Go.Proofs.YtjdeeloemhjbhaaGreat
open Go.RowKit Go.Sep Go.Oct Go.Vm Go.Inp
set_option linter.unusedSimpArgs false

theorem fldF2 {s : VS} (h : s.cells.length = 16) (w : World) : (Instr.field 46 (.agg (svals s).toArray) 0).run Tryz.prog w = .ok (.int .i64 s.frame) w := by
  obtain ⟨f, cells, seed, over, winner⟩ := s
  obtain ⟨c0, c1, c2, c3, c4, c5, c6, c7, c8, c9, c10, c11, c12, c13, c14, c15, rfl⟩ := list16 h
  kernel_rfl
theorem SS_up2 {W0 w : World} {L : List Asn} {g : Nat} {J : SK} {s : PS} {c c' : Nat} (S : Sat W0 w (SS g J s c :: L)) (h : c ≤ c') : Sat W0 w (SS g J s c' :: L) := by
  obtain ⟨r, ring, lo, hi, u, n, m, hi2, S1⟩ := SS_open.1 S
  have h1 := hi2.st
  have h2 := hi2.wr
  exact SS_open.2 ⟨r, ring, lo, hi, u, n, m, ⟨hi2.inv, hi2.hk, hi2.hs, hi2.ro, hi2.qo, hi2.qr, hi2.qn, hi2.hme, hi2.seat, hi2.ne, hi2.se, hi2.mb, hi2.own, hi2.dn, ⟨h1.1, by omega⟩, h2.1, h2.2.1, by omega⟩, S1⟩
/-- what lies in memory in the round -/
def TwM (gx gy gp : Nat) (game : List Value) (J0 J1 : SK) (x y : PS) (cx cy : Nat) : List Asn := [SS gx J0 x cx, SS gy J1 y cy, blk gp game 24]
theorem TwM_up {W0 w : World} {gx gy gp : Nat} {game : List Value} {J0 J1 : SK} {x y : PS} {cx cy cx' cy' : Nat} (S : Sat W0 w (TwM gx gy gp game J0 J1 x y cx cy)) (h1 : cx ≤ cx') (h2 : cy ≤ cy') : Sat W0 w (TwM gx gy gp game J0 J1 x y cx' cy') :=
  (SS_up2 ((SS_up2 (S : Sat W0 w (SS gx J0 x cx :: SS gy J1 y cy :: blk gp game 24 :: [])) h1).swap) h2).swap
set_option maxRecDepth 100000 in
set_option maxHeartbeats 100000000 in
theorem RollbackTwo_walk {w : World} {a : Option Addr} {n c : Nat} {code : List (Int × Int)} (hR : Rd w a (insv code)) (hn : code.length = n) (hnm : n ≤ maxLen) (cap fuel : Int) (seed : Int) (hsd : 0 ≤ seed ∧ seed < 4294967296)
    {ma : Option Addr} {mn mc : Nat} {A : List Int} (hM : U16R w ma mn A) {ha : Option Addr} {hl hc : Nat} {B : List Int} (hH : U16R w ha hl B) {pa : Option Addr} {pn pc : Nat} {picks : List Int} (hP : I64R w pa pn picks) :
    Calls Tryz.prog 4 #[.agg #[.slice a n c, .int .i64 cap, .int .i64 fuel], .int .u32 seed, .slice ma mn mc, .slice ha hl hc, .slice pa pn pc] w fun e w' => e = .returned (.bool true) ∧ Below w.heap.size w w' := by
  have S0 := Sat.start w
  have S1 := S0.alloc [.slice a n c, .int .i64 cap, .int .i64 fuel] 24
  have HRD : Hid (∀ (M : List Asn) (w' : World), Sat w w' M → Rd w' a (insv code)) := fun M w' h => hR.below h.below
  have HN := Lib.hid hn
  have HM := Lib.hid hM
  have HH := Lib.hid hH
  have HP := Lib.hid hP
  have hmt := hM.top
  have hht := hH.top
  have hpt := hP.top
  clear hR hn hM hH hP
  cases hsl : slowP n fuel with
  | true =>
    go_enter Tryz.func4, Tryz.ntmps4
    go_wp2_with (first
      | (refine wpList_load_part rfl 24 _ rfl (n := 3) rfl (Sat.whole S1 3) rfl Tryz.underlying24 rfl Tryz.sizeG ?_)
      | (go_at_call 7; refine (slow_any S1 a n c cap fuel).mono ?_; rw [hsl]; rintro e w2 ⟨rfl, S2⟩)
      | (go_at_call 9; refine (lknown_any S2).mono ?_; rintro e w5 ⟨rfl, S5⟩))
    go_ret
    exact ⟨rfl, S5.below⟩
  | false =>
    obtain ⟨e0, he0⟩ : ∃ e0, checkP code cap fuel = e0 := ⟨_, rfl⟩
    have HC := Lib.hid (fun w' M (S : Sat w w' M) => r10check_any S (c := c) (fun w' h => HRD.out _ _ h) HN.out hnm cap fuel)
    rw [he0] at HC
    by_cases hk : e0 = 0
    rotate_left
    · have hne : (e0 != 0) = true := by simpa using hk
      go_enter Tryz.func4, Tryz.ntmps4
      go_wp2_with (first
        | (go_at_call 7; refine (slow_any S1 a n c cap fuel).mono ?_; rw [hsl]; rintro e w2 ⟨rfl, S2⟩)
        | (go_at_call 8; refine (HC.out _ _ S2).mono ?_; rintro e w3 ⟨rfl, S3⟩)
        | (refine wpList_load_guard (by rfl) 24 _ rfl (n := 3) rfl (Sat.whole S2 3) rfl Tryz.underlying24 rfl Tryz.sizeG ?_)
        | (refine wpList_load_part rfl 24 _ rfl (n := 3) rfl (Sat.whole S1 3) rfl Tryz.underlying24 rfl Tryz.sizeG ?_)
        | (go_at_call 9; refine (lknown_any S3).mono ?_; rintro e w5 ⟨rfl, S5⟩))
      go_ret
      exact ⟨rfl, S5.below⟩
    rw [hk] at he0 HC
    clear hk
    by_cases hm40 : 40 < mn
    · have d1 : decide ((40 : Int) < (mn : Int)) = true := decide_eq_true (by omega)
      have d1' : decide (40 < mn) = true := decide_eq_true hm40
      go_enter Tryz.func4, Tryz.ntmps4
      go_wp2_with (first
        | (go_at_call 7; refine (slow_any S1 a n c cap fuel).mono ?_; rw [hsl]; rintro e w2 ⟨rfl, S2⟩)
        | (go_at_call 8; refine (HC.out _ _ S2).mono ?_; rintro e w3 ⟨rfl, S3⟩)
        | (refine wpList_load_guard (by rfl) 24 _ rfl (n := 3) rfl (Sat.whole S2 3) rfl Tryz.underlying24 rfl Tryz.sizeG ?_)
        | (refine wpList_load_part rfl 24 _ rfl (n := 3) rfl (Sat.whole S1 3) rfl Tryz.underlying24 rfl Tryz.sizeG ?_)
        | (go_at_call 9; refine (lknown_any S3).mono ?_; rintro e w5 ⟨rfl, S5⟩))
      go_ret
      exact ⟨rfl, S5.below⟩
    have d1 : decide ((40 : Int) < (mn : Int)) = false := decide_eq_false (by omega)
    have d1' : decide (40 < mn) = false := decide_eq_false hm40
    by_cases hlm : hl = mn
    rotate_left
    · have d2 : ((hl : Int) != (mn : Int)) = true := by simp only [bne_iff_ne, ne_eq]; omega
      have d2' : (hl != mn) = true := by simpa using hlm
      go_enter Tryz.func4, Tryz.ntmps4
      go_wp2_with (first
        | (go_at_call 7; refine (slow_any S1 a n c cap fuel).mono ?_; rw [hsl]; rintro e w2 ⟨rfl, S2⟩)
        | (go_at_call 8; refine (HC.out _ _ S2).mono ?_; rintro e w3 ⟨rfl, S3⟩)
        | (refine wpList_load_guard (by rfl) 24 _ rfl (n := 3) rfl (Sat.whole S2 3) rfl Tryz.underlying24 rfl Tryz.sizeG ?_)
        | (refine wpList_load_part rfl 24 _ rfl (n := 3) rfl (Sat.whole S1 3) rfl Tryz.underlying24 rfl Tryz.sizeG ?_)
        | (go_at_call 9; refine (lknown_any S3).mono ?_; rintro e w5 ⟨rfl, S5⟩))
      go_ret
      exact ⟨rfl, S5.below⟩
    subst hlm
    have d2 : ((hl : Int) != (hl : Int)) = false := by simp
    have HK := Lib.hid he0
    have HN0 := Lib.hid (fun w' M (S : Sat w w' M) => (rbNew_ok S (c := c) (fun w' h => HRD.out _ _ h) HN.out cap fuel seed 0 he0 (.inl rfl) hsd))
    have HN1 := Lib.hid (fun w' M (S : Sat w w' M) => (rbNew_ok S (c := c) (fun w' h => HRD.out _ _ h) HN.out cap fuel seed 1 he0 (.inr rfl) hsd))
    clear he0
    go_enter Tryz.func4, Tryz.ntmps4
    go_upto_region 8 with (first
      | (go_at_call 7; refine (slow_any S1 a n c cap fuel).mono ?_; rw [hsl]; rintro e w2 ⟨rfl, S2⟩)
      | (go_at_call 8; refine (HC.out _ _ S2).mono ?_; rintro e w3 ⟨rfl, S3⟩)
      | (go_at_call 10; refine (HN1.out _ _ S4).mono ?_; rintro e w5 ⟨gy, rfl, S5⟩)
      | (go_at_call 10; refine (HN0.out _ _ S3).mono ?_; rintro e w4 ⟨gx, rfl, S4⟩)
      | (refine wpList_load_part rfl 24 _ rfl (n := 3) rfl (Sat.whole (S4.sel [1]) 3) rfl Tryz.underlying24 rfl Tryz.sizeG ?_)
      | (refine wpList_load_part rfl 24 _ rfl (n := 3) rfl (Sat.whole S3 3) rfl Tryz.underlying24 rfl Tryz.sizeG ?_)
      | (refine wpList_load_guard (by rfl) 24 _ rfl (n := 3) rfl (Sat.whole S2 3) rfl Tryz.underlying24 rfl Tryz.sizeG ?_)
      | (refine wpList_load_part rfl 24 _ rfl (n := 3) rfl (Sat.whole S1 3) rfl Tryz.underlying24 rfl Tryz.sizeG ?_))
    generalize w.heap.size = gp at S5 ⊢
    obtain ⟨game, hgame⟩ : ∃ game : List Value, [.slice a n c, .int .i64 cap, .int .i64 fuel] = game := ⟨_, rfl⟩
    have HGA := Lib.hid hgame
    rw [hgame] at S5
    have SZ : Sat w w5 (TwM gx gy gp game (KK code cap fuel seed 0) (KK code cap fuel seed 1) (KK code cap fuel seed 0).new (KK code cap fuel seed 1).new 0 0) := S5.swap
    clear S0 S1 S2 S3 S4 S5 HN0 HN1 HC hsl d1 d1' d2 hgame
    have HAB : Hid (Bd A ∧ Bd B) := ⟨HM.out.bd, HH.out.bd⟩
    have hN40 : hl ≤ 40 := by omega
    clear hm40
    obtain ⟨ip, hip, hp0, hp1, hp2⟩ := info_parts Tryz.infoP
    go_wp2_with fail
    go_loopw [15, 16, 17, 18, 19] (fun iv kv yv xv nv wr => ∃ (n2 i k tY tX : Nat) (x y : PS), n2 ≤ 400 ∧ nv = .int .i64 n2 ∧ iv = .int .i64 i ∧ kv = .int .i64 k ∧ yv = .int .i64 tY ∧ xv = .int .i64 tX ∧ Hid (TI code cap fuel seed A B hl pn x y i k tY tX n2) ∧ Sat w wr (TwM gx gy gp game (KK code cap fuel seed 0) (KK code cap fuel seed 1) x y n2 n2)) (fun _ _ _ _ nv _ => 400 - (intOf nv).toNat)
    case atStart => exact ⟨0, 0, 0, 0, 0, _, _, by omega, rfl, rfl, rfl, rfl, rfl, TI.start HM.out.len, SZ⟩
    case round =>
      clear SZ
      obtain ⟨n2, i, k, tY, tX, x, y, hn2, rfl, rfl, rfl, rfl, rfl, HT, SZ⟩ := hrel
      by_cases hlt : n2 < 400
      · have hd : decide ((n2 : Int) < 400) = true := decide_eq_true (by omega)
        have hd' : decide (n2 < 400) = true := decide_eq_true hlt
        go_upto_if 83 with fail
        clear hd hd'
        go_cut [20] (fun v wx => ∃ p : Int, v = .int .i64 p ∧ Hid (pn ≤ n2 → p = n2) ∧ Sat w wx (TwM gx gy gp game (KK code cap fuel seed 0) (KK code cap fuel seed 1) x y n2 n2))
        case first =>
          by_cases hp : n2 < pn
          · have hd : decide ((n2 : Int) < (pn : Int)) = true := decide_eq_true (by omega)
            have hd' : decide (n2 < pn) = true := decide_eq_true hp
            obtain ⟨pb, po, p, rfl, hpc⟩ := HP.out.at hp SZ.below
            have k0 : (0 : Int) ≤ (n2 : Int) := by omega
            have k1 : (n2 : Int) < (pn : Int) := by omega
            go_wp2_with fail
            go_meet
            exact ⟨p, rfl, fun h => by omega, SZ⟩
          · have hd : decide ((n2 : Int) < (pn : Int)) = false := decide_eq_false (by omega)
            have hd' : decide (n2 < pn) = false := decide_eq_false hp
            go_wp2_with fail
            go_meet
            exact ⟨n2, rfl, fun _ => rfl, SZ⟩
        case rest =>
          obtain ⟨p, rfl, HPN, SY⟩ := hcut
          clear SZ
          have SZ : Sat w _ (SS gx (KK code cap fuel seed 0) x n2 :: SS gy (KK code cap fuel seed 1) y n2 :: blk gp game 24 :: []) := SY
          have Gx := SS_good SZ
          have Gy := SS_good (SZ.sel [1])
          have hm4 : bits .and .i64 p 3 = p % 4 := i64_mask p 3 2 (by decide) (by decide)
          have hwn : IntKind.i64.wrap ((n2 : Int) + 1) = (n2 : Int) + 1 := by rw [IntKind.wrap_i64]; omega
          have hiN := HT.out.iN
          have hkN := HT.out.kN
          have hXk := HT.out.hX
          have hYi := HT.out.hY
          have HGG := Lib.hid (⟨Gx, Gy⟩ : _ ∧ _)
          have HR : Hid (p % 4 = 0 ∨ p % 4 = 1 ∨ p % 4 = 2 ∨ p % 4 = 3) := by show _ ∨ _; omega
          clear Gx Gy SY
          rcases HR.out with hr | hr | hr | hr
          · as_aux_lemma =>
              by_cases hlt2 : i < hl
              · have hq1 : decide ((i : Int) < (hl : Int)) = true := decide_eq_true (by omega)
                have hq1' : decide (i < hl) = true := decide_eq_true hlt2
                obtain ⟨mb, mo, v, rfl, hv, hvb, hvc⟩ := HM.out.at hlt2 SZ.below
                have k0 : (0 : Int) ≤ (i : Int) := by omega
                have k1 : (i : Int) < (hl : Int) := by omega
                have HL := Lib.hid (sLoc_any SZ (by omega) hvb)
                unfold Loced at HL
                rcases HT.out.x0 HK.out hsd HAB.out.1 HAB.out.2 HGG.out.1 HPN.out hr hv hlt2 with ⟨e, he, hl2, hT2⟩ | ⟨s', hl2, hT2⟩
                · rw [hl2] at HL
                  have hee : (e == 0) = false := by simpa using he
                  have HT2 := Lib.hid hT2
                  rw [hr] at hm4
                  clear hl2 hT2 hv hvb he hr
                  go_upto_region 30 with (first
                    | (go_at_call 11; refine HL.out.mono ?_; rintro e w6 ⟨rfl, SQ⟩))
                  have SU := TwM_up (cx' := n2 + 1) (cy' := n2 + 1) (SQ : Sat w _ (TwM gx gy gp game _ _ x y (n2 + 1) n2)) (by omega) (by omega)
                  clear SZ SQ HL hq1 hq1' hm4 hee
                  have SZ : Sat w _ (SS gx (KK code cap fuel seed 0) x (n2 + 1) :: SS gy (KK code cap fuel seed 1) y (n2 + 1) :: blk gp game 24 :: []) := SU
                  clear SU
                  have G0 := SS_good SZ
                  have G1 := SS_good (SZ.sel [1])
                  have hux := HT2.out.surex G0
                  have huy := HT2.out.surey G1
                  have hgu := SF_goes HK.out hsd HAB.out.1 HAB.out.2 (min (i) (tX))
                  have hgv := SF_goes HK.out hsd HAB.out.1 HAB.out.2 (min (k) (tY))
                  have hsame := SF_same HK.out hsd HAB.out.1 HAB.out.2 (T := min (i) (tX)) (U := min (k) (tY))
                  obtain ⟨U, hU⟩ : ∃ U, SF code cap fuel seed A B (min (i) (tX)) = U := ⟨_, rfl⟩
                  obtain ⟨V, hV⟩ : ∃ V, SF code cap fuel seed A B (min (k) (tY)) = V := ⟨_, rfl⟩
                  rw [hU] at hux hgu hsame
                  rw [hV] at huy hgv hsame
                  have HUX := Lib.hid hux
                  have HVY := Lib.hid huy
                  have huo := hgu.1.ok.len
                  have hvo := hgv.1.ok.len
                  have hff := fldF2 huo
                  have hfv := fldF2 hvo
                  clear hux huy hU hV hgu hgv G0 G1
                  by_cases hfr : U.frame = V.frame
                  · obtain rfl := hsame hfr
                    have hq : (U.frame == U.frame) = true := by simp
                    have HEQ := Lib.hid (fun w' => (run_neq_state (s := U) (t := U) w' huo huo).trans (by rw [decide_eq_true rfl]))
                    clear hsame hfr huo hvo
                    go_wp2_with (first
                      | (go_at_call_of 14 (Value.pointer (some ⟨gx, 0, none⟩)); refine (sSure_any SZ).mono ?_; rw [HUX.out]; rintro e wz ⟨rfl, SZ⟩)
                      | (go_at_call_of 14 (Value.pointer (some ⟨gy, 0, none⟩)); refine (sSure_any (SZ.sel [1])).mono ?_; rw [HVY.out]; rintro e wz ⟨rfl, SQ⟩; have SZ := SQ.sel [1])
                      | (refine wpList_eq_agg (by rfl) .neq 46 _ _ rfl (r := false) rfl rfl (by kernel_rfl) (HEQ.out _) ?_))
                    go_roundw
                    case measure => simp [intOf]; omega
                    case rel => exact ⟨n2 + 1, i, k, tY, tX, x, y, by omega, by go_num, by first | rfl | go_num, by first | rfl | go_num, by first | rfl | go_num, by first | rfl | go_num, HT2.out, SZ⟩
                  · have hq : (U.frame == V.frame) = false := by simpa using hfr
                    clear hsame hfr huo hvo
                    go_wp2_with (first
                      | (go_at_call_of 14 (Value.pointer (some ⟨gx, 0, none⟩)); refine (sSure_any SZ).mono ?_; rw [HUX.out]; rintro e wz ⟨rfl, SZ⟩)
                      | (go_at_call_of 14 (Value.pointer (some ⟨gy, 0, none⟩)); refine (sSure_any (SZ.sel [1])).mono ?_; rw [HVY.out]; rintro e wz ⟨rfl, SQ⟩; have SZ := SQ.sel [1]))
                    go_roundw
                    case measure => simp [intOf]; omega
                    case rel => exact ⟨n2 + 1, i, k, tY, tX, x, y, by omega, by go_num, by first | rfl | go_num, by first | rfl | go_num, by first | rfl | go_num, by first | rfl | go_num, HT2.out, SZ⟩
                · rw [hl2] at HL
                  have hw2 : IntKind.i64.wrap ((i : Int) + 1) = (i : Int) + 1 := by rw [IntKind.wrap_i64]; omega
                  have HT2 := Lib.hid hT2
                  rw [hr] at hm4
                  clear hl2 hT2 hv hvb hr
                  go_upto_region 30 with (first
                    | (go_at_call 11; refine HL.out.mono ?_; rintro e w6 ⟨rfl, SQ⟩))
                  have SU := TwM_up (cx' := n2 + 1) (cy' := n2 + 1) (SQ : Sat w _ (TwM gx gy gp game _ _ s' y (n2 + 1) n2)) (by omega) (by omega)
                  clear SZ SQ HL hq1 hq1' hm4
                  have SZ : Sat w _ (SS gx (KK code cap fuel seed 0) s' (n2 + 1) :: SS gy (KK code cap fuel seed 1) y (n2 + 1) :: blk gp game 24 :: []) := SU
                  clear SU
                  have G0 := SS_good SZ
                  have G1 := SS_good (SZ.sel [1])
                  have hux := HT2.out.surex G0
                  have huy := HT2.out.surey G1
                  have hgu := SF_goes HK.out hsd HAB.out.1 HAB.out.2 (min (i + 1) (tX))
                  have hgv := SF_goes HK.out hsd HAB.out.1 HAB.out.2 (min (k) (tY))
                  have hsame := SF_same HK.out hsd HAB.out.1 HAB.out.2 (T := min (i + 1) (tX)) (U := min (k) (tY))
                  obtain ⟨U, hU⟩ : ∃ U, SF code cap fuel seed A B (min (i + 1) (tX)) = U := ⟨_, rfl⟩
                  obtain ⟨V, hV⟩ : ∃ V, SF code cap fuel seed A B (min (k) (tY)) = V := ⟨_, rfl⟩
                  rw [hU] at hux hgu hsame
                  rw [hV] at huy hgv hsame
                  have HUX := Lib.hid hux
                  have HVY := Lib.hid huy
                  have huo := hgu.1.ok.len
                  have hvo := hgv.1.ok.len
                  have hff := fldF2 huo
                  have hfv := fldF2 hvo
                  clear hux huy hU hV hgu hgv G0 G1
                  by_cases hfr : U.frame = V.frame
                  · obtain rfl := hsame hfr
                    have hq : (U.frame == U.frame) = true := by simp
                    have HEQ := Lib.hid (fun w' => (run_neq_state (s := U) (t := U) w' huo huo).trans (by rw [decide_eq_true rfl]))
                    clear hsame hfr huo hvo
                    go_wp2_with (first
                      | (go_at_call_of 14 (Value.pointer (some ⟨gx, 0, none⟩)); refine (sSure_any SZ).mono ?_; rw [HUX.out]; rintro e wz ⟨rfl, SZ⟩)
                      | (go_at_call_of 14 (Value.pointer (some ⟨gy, 0, none⟩)); refine (sSure_any (SZ.sel [1])).mono ?_; rw [HVY.out]; rintro e wz ⟨rfl, SQ⟩; have SZ := SQ.sel [1])
                      | (refine wpList_eq_agg (by rfl) .neq 46 _ _ rfl (r := false) rfl rfl (by kernel_rfl) (HEQ.out _) ?_))
                    go_roundw
                    case measure => simp [intOf]; omega
                    case rel => exact ⟨n2 + 1, i + 1, k, tY, tX, s', y, by omega, by go_num, by first | rfl | go_num, by first | rfl | go_num, by first | rfl | go_num, by first | rfl | go_num, HT2.out, SZ⟩
                  · have hq : (U.frame == V.frame) = false := by simpa using hfr
                    clear hsame hfr huo hvo
                    go_wp2_with (first
                      | (go_at_call_of 14 (Value.pointer (some ⟨gx, 0, none⟩)); refine (sSure_any SZ).mono ?_; rw [HUX.out]; rintro e wz ⟨rfl, SZ⟩)
                      | (go_at_call_of 14 (Value.pointer (some ⟨gy, 0, none⟩)); refine (sSure_any (SZ.sel [1])).mono ?_; rw [HVY.out]; rintro e wz ⟨rfl, SQ⟩; have SZ := SQ.sel [1]))
                    go_roundw
                    case measure => simp [intOf]; omega
                    case rel => exact ⟨n2 + 1, i + 1, k, tY, tX, s', y, by omega, by go_num, by first | rfl | go_num, by first | rfl | go_num, by first | rfl | go_num, by first | rfl | go_num, HT2.out, SZ⟩
              · have hq1 : decide ((i : Int) < (hl : Int)) = false := decide_eq_false (by omega)
                have hq1' : decide (i < hl) = false := decide_eq_false hlt2
                have HT2 := Lib.hid (HT.out.x0' HPN.out hr hlt2)
                rw [hr] at hm4
                clear hr
                go_upto_region 30 with fail
                have SU := TwM_up (cx' := n2 + 1) (cy' := n2 + 1) (SZ : Sat w _ (TwM gx gy gp game _ _ x y n2 n2)) (by omega) (by omega)
                clear SZ hq1 hq1' hm4
                have SZ : Sat w _ (SS gx (KK code cap fuel seed 0) x (n2 + 1) :: SS gy (KK code cap fuel seed 1) y (n2 + 1) :: blk gp game 24 :: []) := SU
                clear SU
                have G0 := SS_good SZ
                have G1 := SS_good (SZ.sel [1])
                have hux := HT2.out.surex G0
                have huy := HT2.out.surey G1
                have hgu := SF_goes HK.out hsd HAB.out.1 HAB.out.2 (min (i) (tX))
                have hgv := SF_goes HK.out hsd HAB.out.1 HAB.out.2 (min (k) (tY))
                have hsame := SF_same HK.out hsd HAB.out.1 HAB.out.2 (T := min (i) (tX)) (U := min (k) (tY))
                obtain ⟨U, hU⟩ : ∃ U, SF code cap fuel seed A B (min (i) (tX)) = U := ⟨_, rfl⟩
                obtain ⟨V, hV⟩ : ∃ V, SF code cap fuel seed A B (min (k) (tY)) = V := ⟨_, rfl⟩
                rw [hU] at hux hgu hsame
                rw [hV] at huy hgv hsame
                have HUX := Lib.hid hux
                have HVY := Lib.hid huy
                have huo := hgu.1.ok.len
                have hvo := hgv.1.ok.len
                have hff := fldF2 huo
                have hfv := fldF2 hvo
                clear hux huy hU hV hgu hgv G0 G1
                by_cases hfr : U.frame = V.frame
                · obtain rfl := hsame hfr
                  have hq : (U.frame == U.frame) = true := by simp
                  have HEQ := Lib.hid (fun w' => (run_neq_state (s := U) (t := U) w' huo huo).trans (by rw [decide_eq_true rfl]))
                  clear hsame hfr huo hvo
                  go_wp2_with (first
                    | (go_at_call_of 14 (Value.pointer (some ⟨gx, 0, none⟩)); refine (sSure_any SZ).mono ?_; rw [HUX.out]; rintro e wz ⟨rfl, SZ⟩)
                    | (go_at_call_of 14 (Value.pointer (some ⟨gy, 0, none⟩)); refine (sSure_any (SZ.sel [1])).mono ?_; rw [HVY.out]; rintro e wz ⟨rfl, SQ⟩; have SZ := SQ.sel [1])
                    | (refine wpList_eq_agg (by rfl) .neq 46 _ _ rfl (r := false) rfl rfl (by kernel_rfl) (HEQ.out _) ?_))
                  go_roundw
                  case measure => simp [intOf]; omega
                  case rel => exact ⟨n2 + 1, i, k, tY, tX, x, y, by omega, by go_num, by first | rfl | go_num, by first | rfl | go_num, by first | rfl | go_num, by first | rfl | go_num, HT2.out, SZ⟩
                · have hq : (U.frame == V.frame) = false := by simpa using hfr
                  clear hsame hfr huo hvo
                  go_wp2_with (first
                    | (go_at_call_of 14 (Value.pointer (some ⟨gx, 0, none⟩)); refine (sSure_any SZ).mono ?_; rw [HUX.out]; rintro e wz ⟨rfl, SZ⟩)
                    | (go_at_call_of 14 (Value.pointer (some ⟨gy, 0, none⟩)); refine (sSure_any (SZ.sel [1])).mono ?_; rw [HVY.out]; rintro e wz ⟨rfl, SQ⟩; have SZ := SQ.sel [1]))
                  go_roundw
                  case measure => simp [intOf]; omega
                  case rel => exact ⟨n2 + 1, i, k, tY, tX, x, y, by omega, by go_num, by first | rfl | go_num, by first | rfl | go_num, by first | rfl | go_num, by first | rfl | go_num, HT2.out, SZ⟩
          · as_aux_lemma =>
              by_cases hlt2 : k < hl
              · have hq1 : decide ((k : Int) < (hl : Int)) = true := decide_eq_true (by omega)
                have hq1' : decide (k < hl) = true := decide_eq_true hlt2
                obtain ⟨mb, mo, v, rfl, hv, hvb, hvc⟩ := HH.out.at hlt2 SZ.below
                have k0 : (0 : Int) ≤ (k : Int) := by omega
                have k1 : (k : Int) < (hl : Int) := by omega
                have HL := Lib.hid (sLoc_any (SZ.sel [1]) (by omega) hvb)
                unfold Loced at HL
                rcases HT.out.y0 HK.out hsd HAB.out.1 HAB.out.2 HGG.out.2 HPN.out hr hv hlt2 with ⟨e, he, hl2, hT2⟩ | ⟨s', hl2, hT2⟩
                · rw [hl2] at HL
                  have hee : (e == 0) = false := by simpa using he
                  have HT2 := Lib.hid hT2
                  rw [hr] at hm4
                  clear hl2 hT2 hv hvb he hr
                  go_upto_region 30 with (first
                    | (go_at_call 11; refine HL.out.mono ?_; rintro e w6 ⟨rfl, SQ⟩))
                  have SU := TwM_up (cx' := n2 + 1) (cy' := n2 + 1) (SQ.sel [1] : Sat w _ (TwM gx gy gp game _ _ x y n2 (n2 + 1))) (by omega) (by omega)
                  clear SZ SQ HL hq1 hq1' hm4 hee
                  have SZ : Sat w _ (SS gx (KK code cap fuel seed 0) x (n2 + 1) :: SS gy (KK code cap fuel seed 1) y (n2 + 1) :: blk gp game 24 :: []) := SU
                  clear SU
                  have G0 := SS_good SZ
                  have G1 := SS_good (SZ.sel [1])
                  have hux := HT2.out.surex G0
                  have huy := HT2.out.surey G1
                  have hgu := SF_goes HK.out hsd HAB.out.1 HAB.out.2 (min (i) (tX))
                  have hgv := SF_goes HK.out hsd HAB.out.1 HAB.out.2 (min (k) (tY))
                  have hsame := SF_same HK.out hsd HAB.out.1 HAB.out.2 (T := min (i) (tX)) (U := min (k) (tY))
                  obtain ⟨U, hU⟩ : ∃ U, SF code cap fuel seed A B (min (i) (tX)) = U := ⟨_, rfl⟩
                  obtain ⟨V, hV⟩ : ∃ V, SF code cap fuel seed A B (min (k) (tY)) = V := ⟨_, rfl⟩
                  rw [hU] at hux hgu hsame
                  rw [hV] at huy hgv hsame
                  have HUX := Lib.hid hux
                  have HVY := Lib.hid huy
                  have huo := hgu.1.ok.len
                  have hvo := hgv.1.ok.len
                  have hff := fldF2 huo
                  have hfv := fldF2 hvo
                  clear hux huy hU hV hgu hgv G0 G1
                  by_cases hfr : U.frame = V.frame
                  · obtain rfl := hsame hfr
                    have hq : (U.frame == U.frame) = true := by simp
                    have HEQ := Lib.hid (fun w' => (run_neq_state (s := U) (t := U) w' huo huo).trans (by rw [decide_eq_true rfl]))
                    clear hsame hfr huo hvo
                    go_wp2_with (first
                      | (go_at_call_of 14 (Value.pointer (some ⟨gx, 0, none⟩)); refine (sSure_any SZ).mono ?_; rw [HUX.out]; rintro e wz ⟨rfl, SZ⟩)
                      | (go_at_call_of 14 (Value.pointer (some ⟨gy, 0, none⟩)); refine (sSure_any (SZ.sel [1])).mono ?_; rw [HVY.out]; rintro e wz ⟨rfl, SQ⟩; have SZ := SQ.sel [1])
                      | (refine wpList_eq_agg (by rfl) .neq 46 _ _ rfl (r := false) rfl rfl (by kernel_rfl) (HEQ.out _) ?_))
                    go_roundw
                    case measure => simp [intOf]; omega
                    case rel => exact ⟨n2 + 1, i, k, tY, tX, x, y, by omega, by go_num, by first | rfl | go_num, by first | rfl | go_num, by first | rfl | go_num, by first | rfl | go_num, HT2.out, SZ⟩
                  · have hq : (U.frame == V.frame) = false := by simpa using hfr
                    clear hsame hfr huo hvo
                    go_wp2_with (first
                      | (go_at_call_of 14 (Value.pointer (some ⟨gx, 0, none⟩)); refine (sSure_any SZ).mono ?_; rw [HUX.out]; rintro e wz ⟨rfl, SZ⟩)
                      | (go_at_call_of 14 (Value.pointer (some ⟨gy, 0, none⟩)); refine (sSure_any (SZ.sel [1])).mono ?_; rw [HVY.out]; rintro e wz ⟨rfl, SQ⟩; have SZ := SQ.sel [1]))
                    go_roundw
                    case measure => simp [intOf]; omega
                    case rel => exact ⟨n2 + 1, i, k, tY, tX, x, y, by omega, by go_num, by first | rfl | go_num, by first | rfl | go_num, by first | rfl | go_num, by first | rfl | go_num, HT2.out, SZ⟩
                · rw [hl2] at HL
                  have hw2 : IntKind.i64.wrap ((k : Int) + 1) = (k : Int) + 1 := by rw [IntKind.wrap_i64]; omega
                  have HT2 := Lib.hid hT2
                  rw [hr] at hm4
                  clear hl2 hT2 hv hvb hr
                  go_upto_region 30 with (first
                    | (go_at_call 11; refine HL.out.mono ?_; rintro e w6 ⟨rfl, SQ⟩))
                  have SU := TwM_up (cx' := n2 + 1) (cy' := n2 + 1) (SQ.sel [1] : Sat w _ (TwM gx gy gp game _ _ x s' n2 (n2 + 1))) (by omega) (by omega)
                  clear SZ SQ HL hq1 hq1' hm4
                  have SZ : Sat w _ (SS gx (KK code cap fuel seed 0) x (n2 + 1) :: SS gy (KK code cap fuel seed 1) s' (n2 + 1) :: blk gp game 24 :: []) := SU
                  clear SU
                  have G0 := SS_good SZ
                  have G1 := SS_good (SZ.sel [1])
                  have hux := HT2.out.surex G0
                  have huy := HT2.out.surey G1
                  have hgu := SF_goes HK.out hsd HAB.out.1 HAB.out.2 (min (i) (tX))
                  have hgv := SF_goes HK.out hsd HAB.out.1 HAB.out.2 (min (k + 1) (tY))
                  have hsame := SF_same HK.out hsd HAB.out.1 HAB.out.2 (T := min (i) (tX)) (U := min (k + 1) (tY))
                  obtain ⟨U, hU⟩ : ∃ U, SF code cap fuel seed A B (min (i) (tX)) = U := ⟨_, rfl⟩
                  obtain ⟨V, hV⟩ : ∃ V, SF code cap fuel seed A B (min (k + 1) (tY)) = V := ⟨_, rfl⟩
                  rw [hU] at hux hgu hsame
                  rw [hV] at huy hgv hsame
                  have HUX := Lib.hid hux
                  have HVY := Lib.hid huy
                  have huo := hgu.1.ok.len
                  have hvo := hgv.1.ok.len
                  have hff := fldF2 huo
                  have hfv := fldF2 hvo
                  clear hux huy hU hV hgu hgv G0 G1
                  by_cases hfr : U.frame = V.frame
                  · obtain rfl := hsame hfr
                    have hq : (U.frame == U.frame) = true := by simp
                    have HEQ := Lib.hid (fun w' => (run_neq_state (s := U) (t := U) w' huo huo).trans (by rw [decide_eq_true rfl]))
                    clear hsame hfr huo hvo
                    go_wp2_with (first
                      | (go_at_call_of 14 (Value.pointer (some ⟨gx, 0, none⟩)); refine (sSure_any SZ).mono ?_; rw [HUX.out]; rintro e wz ⟨rfl, SZ⟩)
                      | (go_at_call_of 14 (Value.pointer (some ⟨gy, 0, none⟩)); refine (sSure_any (SZ.sel [1])).mono ?_; rw [HVY.out]; rintro e wz ⟨rfl, SQ⟩; have SZ := SQ.sel [1])
                      | (refine wpList_eq_agg (by rfl) .neq 46 _ _ rfl (r := false) rfl rfl (by kernel_rfl) (HEQ.out _) ?_))
                    go_roundw
                    case measure => simp [intOf]; omega
                    case rel => exact ⟨n2 + 1, i, k + 1, tY, tX, x, s', by omega, by go_num, by first | rfl | go_num, by first | rfl | go_num, by first | rfl | go_num, by first | rfl | go_num, HT2.out, SZ⟩
                  · have hq : (U.frame == V.frame) = false := by simpa using hfr
                    clear hsame hfr huo hvo
                    go_wp2_with (first
                      | (go_at_call_of 14 (Value.pointer (some ⟨gx, 0, none⟩)); refine (sSure_any SZ).mono ?_; rw [HUX.out]; rintro e wz ⟨rfl, SZ⟩)
                      | (go_at_call_of 14 (Value.pointer (some ⟨gy, 0, none⟩)); refine (sSure_any (SZ.sel [1])).mono ?_; rw [HVY.out]; rintro e wz ⟨rfl, SQ⟩; have SZ := SQ.sel [1]))
                    go_roundw
                    case measure => simp [intOf]; omega
                    case rel => exact ⟨n2 + 1, i, k + 1, tY, tX, x, s', by omega, by go_num, by first | rfl | go_num, by first | rfl | go_num, by first | rfl | go_num, by first | rfl | go_num, HT2.out, SZ⟩
              · have hq1 : decide ((k : Int) < (hl : Int)) = false := decide_eq_false (by omega)
                have hq1' : decide (k < hl) = false := decide_eq_false hlt2
                have HT2 := Lib.hid (HT.out.y0' HPN.out hr hlt2)
                rw [hr] at hm4
                clear hr
                go_upto_region 30 with fail
                have SU := TwM_up (cx' := n2 + 1) (cy' := n2 + 1) (SZ : Sat w _ (TwM gx gy gp game _ _ x y n2 n2)) (by omega) (by omega)
                clear SZ hq1 hq1' hm4
                have SZ : Sat w _ (SS gx (KK code cap fuel seed 0) x (n2 + 1) :: SS gy (KK code cap fuel seed 1) y (n2 + 1) :: blk gp game 24 :: []) := SU
                clear SU
                have G0 := SS_good SZ
                have G1 := SS_good (SZ.sel [1])
                have hux := HT2.out.surex G0
                have huy := HT2.out.surey G1
                have hgu := SF_goes HK.out hsd HAB.out.1 HAB.out.2 (min (i) (tX))
                have hgv := SF_goes HK.out hsd HAB.out.1 HAB.out.2 (min (k) (tY))
                have hsame := SF_same HK.out hsd HAB.out.1 HAB.out.2 (T := min (i) (tX)) (U := min (k) (tY))
                obtain ⟨U, hU⟩ : ∃ U, SF code cap fuel seed A B (min (i) (tX)) = U := ⟨_, rfl⟩
                obtain ⟨V, hV⟩ : ∃ V, SF code cap fuel seed A B (min (k) (tY)) = V := ⟨_, rfl⟩
                rw [hU] at hux hgu hsame
                rw [hV] at huy hgv hsame
                have HUX := Lib.hid hux
                have HVY := Lib.hid huy
                have huo := hgu.1.ok.len
                have hvo := hgv.1.ok.len
                have hff := fldF2 huo
                have hfv := fldF2 hvo
                clear hux huy hU hV hgu hgv G0 G1
                by_cases hfr : U.frame = V.frame
                · obtain rfl := hsame hfr
                  have hq : (U.frame == U.frame) = true := by simp
                  have HEQ := Lib.hid (fun w' => (run_neq_state (s := U) (t := U) w' huo huo).trans (by rw [decide_eq_true rfl]))
                  clear hsame hfr huo hvo
                  go_wp2_with (first
                    | (go_at_call_of 14 (Value.pointer (some ⟨gx, 0, none⟩)); refine (sSure_any SZ).mono ?_; rw [HUX.out]; rintro e wz ⟨rfl, SZ⟩)
                    | (go_at_call_of 14 (Value.pointer (some ⟨gy, 0, none⟩)); refine (sSure_any (SZ.sel [1])).mono ?_; rw [HVY.out]; rintro e wz ⟨rfl, SQ⟩; have SZ := SQ.sel [1])
                    | (refine wpList_eq_agg (by rfl) .neq 46 _ _ rfl (r := false) rfl rfl (by kernel_rfl) (HEQ.out _) ?_))
                  go_roundw
                  case measure => simp [intOf]; omega
                  case rel => exact ⟨n2 + 1, i, k, tY, tX, x, y, by omega, by go_num, by first | rfl | go_num, by first | rfl | go_num, by first | rfl | go_num, by first | rfl | go_num, HT2.out, SZ⟩
                · have hq : (U.frame == V.frame) = false := by simpa using hfr
                  clear hsame hfr huo hvo
                  go_wp2_with (first
                    | (go_at_call_of 14 (Value.pointer (some ⟨gx, 0, none⟩)); refine (sSure_any SZ).mono ?_; rw [HUX.out]; rintro e wz ⟨rfl, SZ⟩)
                    | (go_at_call_of 14 (Value.pointer (some ⟨gy, 0, none⟩)); refine (sSure_any (SZ.sel [1])).mono ?_; rw [HVY.out]; rintro e wz ⟨rfl, SQ⟩; have SZ := SQ.sel [1]))
                  go_roundw
                  case measure => simp [intOf]; omega
                  case rel => exact ⟨n2 + 1, i, k, tY, tX, x, y, by omega, by go_num, by first | rfl | go_num, by first | rfl | go_num, by first | rfl | go_num, by first | rfl | go_num, HT2.out, SZ⟩
          · as_aux_lemma =>
              by_cases hlt2 : tY < i
              · have hq1 : decide ((tY : Int) < (i : Int)) = true := decide_eq_true (by omega)
                have hq1' : decide (tY < i) = true := decide_eq_true hlt2
                obtain ⟨mb, mo, v, rfl, hv, hvb, hvc⟩ := HM.out.at (k := tY) (by omega) SZ.below
                have k0 : (0 : Int) ≤ (tY : Int) := by omega
                have k1 : (tY : Int) < (hl : Int) := by omega
                have HL := Lib.hid (sRem_any (SZ.sel [1]) (by omega) tY hvb)
                unfold Remed at HL
                rcases HT.out.y1 HK.out hsd HAB.out.1 HAB.out.2 HGG.out.2 HPN.out hr hv hlt2 with ⟨e, he, hl2, hT2⟩ | ⟨s', hl2, hT2⟩
                · rw [hl2] at HL
                  have hee : (e == 0) = false := by simpa using he
                  have HT2 := Lib.hid hT2
                  rw [hr] at hm4
                  clear hl2 hT2 hv hvb he hr
                  go_upto_region 30 with (first
                    | (go_at_call 12; refine HL.out.mono ?_; rintro e w6 ⟨rfl, SQ⟩))
                  have SU := TwM_up (cx' := n2 + 1) (cy' := n2 + 1) (SQ.sel [1] : Sat w _ (TwM gx gy gp game _ _ x y n2 (n2 + 1))) (by omega) (by omega)
                  clear SZ SQ HL hq1 hq1' hm4 hee
                  have SZ : Sat w _ (SS gx (KK code cap fuel seed 0) x (n2 + 1) :: SS gy (KK code cap fuel seed 1) y (n2 + 1) :: blk gp game 24 :: []) := SU
                  clear SU
                  have G0 := SS_good SZ
                  have G1 := SS_good (SZ.sel [1])
                  have hux := HT2.out.surex G0
                  have huy := HT2.out.surey G1
                  have hgu := SF_goes HK.out hsd HAB.out.1 HAB.out.2 (min (i) (tX))
                  have hgv := SF_goes HK.out hsd HAB.out.1 HAB.out.2 (min (k) (tY))
                  have hsame := SF_same HK.out hsd HAB.out.1 HAB.out.2 (T := min (i) (tX)) (U := min (k) (tY))
                  obtain ⟨U, hU⟩ : ∃ U, SF code cap fuel seed A B (min (i) (tX)) = U := ⟨_, rfl⟩
                  obtain ⟨V, hV⟩ : ∃ V, SF code cap fuel seed A B (min (k) (tY)) = V := ⟨_, rfl⟩
                  rw [hU] at hux hgu hsame
                  rw [hV] at huy hgv hsame
                  have HUX := Lib.hid hux
                  have HVY := Lib.hid huy
                  have huo := hgu.1.ok.len
                  have hvo := hgv.1.ok.len
                  have hff := fldF2 huo
                  have hfv := fldF2 hvo
                  clear hux huy hU hV hgu hgv G0 G1
                  by_cases hfr : U.frame = V.frame
                  · obtain rfl := hsame hfr
                    have hq : (U.frame == U.frame) = true := by simp
                    have HEQ := Lib.hid (fun w' => (run_neq_state (s := U) (t := U) w' huo huo).trans (by rw [decide_eq_true rfl]))
                    clear hsame hfr huo hvo
                    go_wp2_with (first
                      | (go_at_call_of 14 (Value.pointer (some ⟨gx, 0, none⟩)); refine (sSure_any SZ).mono ?_; rw [HUX.out]; rintro e wz ⟨rfl, SZ⟩)
                      | (go_at_call_of 14 (Value.pointer (some ⟨gy, 0, none⟩)); refine (sSure_any (SZ.sel [1])).mono ?_; rw [HVY.out]; rintro e wz ⟨rfl, SQ⟩; have SZ := SQ.sel [1])
                      | (refine wpList_eq_agg (by rfl) .neq 46 _ _ rfl (r := false) rfl rfl (by kernel_rfl) (HEQ.out _) ?_))
                    go_roundw
                    case measure => simp [intOf]; omega
                    case rel => exact ⟨n2 + 1, i, k, tY, tX, x, y, by omega, by go_num, by first | rfl | go_num, by first | rfl | go_num, by first | rfl | go_num, by first | rfl | go_num, HT2.out, SZ⟩
                  · have hq : (U.frame == V.frame) = false := by simpa using hfr
                    clear hsame hfr huo hvo
                    go_wp2_with (first
                      | (go_at_call_of 14 (Value.pointer (some ⟨gx, 0, none⟩)); refine (sSure_any SZ).mono ?_; rw [HUX.out]; rintro e wz ⟨rfl, SZ⟩)
                      | (go_at_call_of 14 (Value.pointer (some ⟨gy, 0, none⟩)); refine (sSure_any (SZ.sel [1])).mono ?_; rw [HVY.out]; rintro e wz ⟨rfl, SQ⟩; have SZ := SQ.sel [1]))
                    go_roundw
                    case measure => simp [intOf]; omega
                    case rel => exact ⟨n2 + 1, i, k, tY, tX, x, y, by omega, by go_num, by first | rfl | go_num, by first | rfl | go_num, by first | rfl | go_num, by first | rfl | go_num, HT2.out, SZ⟩
                · rw [hl2] at HL
                  have hw2 : IntKind.i64.wrap ((tY : Int) + 1) = (tY : Int) + 1 := by rw [IntKind.wrap_i64]; omega
                  have HT2 := Lib.hid hT2
                  rw [hr] at hm4
                  clear hl2 hT2 hv hvb hr
                  go_upto_region 30 with (first
                    | (go_at_call 12; refine HL.out.mono ?_; rintro e w6 ⟨rfl, SQ⟩))
                  have SU := TwM_up (cx' := n2 + 1) (cy' := n2 + 1) (SQ.sel [1] : Sat w _ (TwM gx gy gp game _ _ x s' n2 (n2 + 1))) (by omega) (by omega)
                  clear SZ SQ HL hq1 hq1' hm4
                  have SZ : Sat w _ (SS gx (KK code cap fuel seed 0) x (n2 + 1) :: SS gy (KK code cap fuel seed 1) s' (n2 + 1) :: blk gp game 24 :: []) := SU
                  clear SU
                  have G0 := SS_good SZ
                  have G1 := SS_good (SZ.sel [1])
                  have hux := HT2.out.surex G0
                  have huy := HT2.out.surey G1
                  have hgu := SF_goes HK.out hsd HAB.out.1 HAB.out.2 (min (i) (tX))
                  have hgv := SF_goes HK.out hsd HAB.out.1 HAB.out.2 (min (k) (tY + 1))
                  have hsame := SF_same HK.out hsd HAB.out.1 HAB.out.2 (T := min (i) (tX)) (U := min (k) (tY + 1))
                  obtain ⟨U, hU⟩ : ∃ U, SF code cap fuel seed A B (min (i) (tX)) = U := ⟨_, rfl⟩
                  obtain ⟨V, hV⟩ : ∃ V, SF code cap fuel seed A B (min (k) (tY + 1)) = V := ⟨_, rfl⟩
                  rw [hU] at hux hgu hsame
                  rw [hV] at huy hgv hsame
                  have HUX := Lib.hid hux
                  have HVY := Lib.hid huy
                  have huo := hgu.1.ok.len
                  have hvo := hgv.1.ok.len
                  have hff := fldF2 huo
                  have hfv := fldF2 hvo
                  clear hux huy hU hV hgu hgv G0 G1
                  by_cases hfr : U.frame = V.frame
                  · obtain rfl := hsame hfr
                    have hq : (U.frame == U.frame) = true := by simp
                    have HEQ := Lib.hid (fun w' => (run_neq_state (s := U) (t := U) w' huo huo).trans (by rw [decide_eq_true rfl]))
                    clear hsame hfr huo hvo
                    go_wp2_with (first
                      | (go_at_call_of 14 (Value.pointer (some ⟨gx, 0, none⟩)); refine (sSure_any SZ).mono ?_; rw [HUX.out]; rintro e wz ⟨rfl, SZ⟩)
                      | (go_at_call_of 14 (Value.pointer (some ⟨gy, 0, none⟩)); refine (sSure_any (SZ.sel [1])).mono ?_; rw [HVY.out]; rintro e wz ⟨rfl, SQ⟩; have SZ := SQ.sel [1])
                      | (refine wpList_eq_agg (by rfl) .neq 46 _ _ rfl (r := false) rfl rfl (by kernel_rfl) (HEQ.out _) ?_))
                    go_roundw
                    case measure => simp [intOf]; omega
                    case rel => exact ⟨n2 + 1, i, k, tY + 1, tX, x, s', by omega, by go_num, by first | rfl | go_num, by first | rfl | go_num, by first | rfl | go_num, by first | rfl | go_num, HT2.out, SZ⟩
                  · have hq : (U.frame == V.frame) = false := by simpa using hfr
                    clear hsame hfr huo hvo
                    go_wp2_with (first
                      | (go_at_call_of 14 (Value.pointer (some ⟨gx, 0, none⟩)); refine (sSure_any SZ).mono ?_; rw [HUX.out]; rintro e wz ⟨rfl, SZ⟩)
                      | (go_at_call_of 14 (Value.pointer (some ⟨gy, 0, none⟩)); refine (sSure_any (SZ.sel [1])).mono ?_; rw [HVY.out]; rintro e wz ⟨rfl, SQ⟩; have SZ := SQ.sel [1]))
                    go_roundw
                    case measure => simp [intOf]; omega
                    case rel => exact ⟨n2 + 1, i, k, tY + 1, tX, x, s', by omega, by go_num, by first | rfl | go_num, by first | rfl | go_num, by first | rfl | go_num, by first | rfl | go_num, HT2.out, SZ⟩
              · have hq1 : decide ((tY : Int) < (i : Int)) = false := decide_eq_false (by omega)
                have hq1' : decide (tY < i) = false := decide_eq_false hlt2
                have HT2 := Lib.hid (HT.out.y1' HPN.out hr hlt2)
                rw [hr] at hm4
                clear hr
                go_upto_region 30 with fail
                have SU := TwM_up (cx' := n2 + 1) (cy' := n2 + 1) (SZ : Sat w _ (TwM gx gy gp game _ _ x y n2 n2)) (by omega) (by omega)
                clear SZ hq1 hq1' hm4
                have SZ : Sat w _ (SS gx (KK code cap fuel seed 0) x (n2 + 1) :: SS gy (KK code cap fuel seed 1) y (n2 + 1) :: blk gp game 24 :: []) := SU
                clear SU
                have G0 := SS_good SZ
                have G1 := SS_good (SZ.sel [1])
                have hux := HT2.out.surex G0
                have huy := HT2.out.surey G1
                have hgu := SF_goes HK.out hsd HAB.out.1 HAB.out.2 (min (i) (tX))
                have hgv := SF_goes HK.out hsd HAB.out.1 HAB.out.2 (min (k) (tY))
                have hsame := SF_same HK.out hsd HAB.out.1 HAB.out.2 (T := min (i) (tX)) (U := min (k) (tY))
                obtain ⟨U, hU⟩ : ∃ U, SF code cap fuel seed A B (min (i) (tX)) = U := ⟨_, rfl⟩
                obtain ⟨V, hV⟩ : ∃ V, SF code cap fuel seed A B (min (k) (tY)) = V := ⟨_, rfl⟩
                rw [hU] at hux hgu hsame
                rw [hV] at huy hgv hsame
                have HUX := Lib.hid hux
                have HVY := Lib.hid huy
                have huo := hgu.1.ok.len
                have hvo := hgv.1.ok.len
                have hff := fldF2 huo
                have hfv := fldF2 hvo
                clear hux huy hU hV hgu hgv G0 G1
                by_cases hfr : U.frame = V.frame
                · obtain rfl := hsame hfr
                  have hq : (U.frame == U.frame) = true := by simp
                  have HEQ := Lib.hid (fun w' => (run_neq_state (s := U) (t := U) w' huo huo).trans (by rw [decide_eq_true rfl]))
                  clear hsame hfr huo hvo
                  go_wp2_with (first
                    | (go_at_call_of 14 (Value.pointer (some ⟨gx, 0, none⟩)); refine (sSure_any SZ).mono ?_; rw [HUX.out]; rintro e wz ⟨rfl, SZ⟩)
                    | (go_at_call_of 14 (Value.pointer (some ⟨gy, 0, none⟩)); refine (sSure_any (SZ.sel [1])).mono ?_; rw [HVY.out]; rintro e wz ⟨rfl, SQ⟩; have SZ := SQ.sel [1])
                    | (refine wpList_eq_agg (by rfl) .neq 46 _ _ rfl (r := false) rfl rfl (by kernel_rfl) (HEQ.out _) ?_))
                  go_roundw
                  case measure => simp [intOf]; omega
                  case rel => exact ⟨n2 + 1, i, k, tY, tX, x, y, by omega, by go_num, by first | rfl | go_num, by first | rfl | go_num, by first | rfl | go_num, by first | rfl | go_num, HT2.out, SZ⟩
                · have hq : (U.frame == V.frame) = false := by simpa using hfr
                  clear hsame hfr huo hvo
                  go_wp2_with (first
                    | (go_at_call_of 14 (Value.pointer (some ⟨gx, 0, none⟩)); refine (sSure_any SZ).mono ?_; rw [HUX.out]; rintro e wz ⟨rfl, SZ⟩)
                    | (go_at_call_of 14 (Value.pointer (some ⟨gy, 0, none⟩)); refine (sSure_any (SZ.sel [1])).mono ?_; rw [HVY.out]; rintro e wz ⟨rfl, SQ⟩; have SZ := SQ.sel [1]))
                  go_roundw
                  case measure => simp [intOf]; omega
                  case rel => exact ⟨n2 + 1, i, k, tY, tX, x, y, by omega, by go_num, by first | rfl | go_num, by first | rfl | go_num, by first | rfl | go_num, by first | rfl | go_num, HT2.out, SZ⟩
          · as_aux_lemma =>
              by_cases hlt2 : tX < k
              · have hq1 : decide ((tX : Int) < (k : Int)) = true := decide_eq_true (by omega)
                have hq1' : decide (tX < k) = true := decide_eq_true hlt2
                obtain ⟨mb, mo, v, rfl, hv, hvb, hvc⟩ := HH.out.at (k := tX) (by omega) SZ.below
                have k0 : (0 : Int) ≤ (tX : Int) := by omega
                have k1 : (tX : Int) < (hl : Int) := by omega
                have HL := Lib.hid (sRem_any SZ (by omega) tX hvb)
                unfold Remed at HL
                rcases HT.out.x1 HK.out hsd HAB.out.1 HAB.out.2 HGG.out.1 HPN.out hr hv hlt2 with ⟨e, he, hl2, hT2⟩ | ⟨s', hl2, hT2⟩
                · rw [hl2] at HL
                  have hee : (e == 0) = false := by simpa using he
                  have HT2 := Lib.hid hT2
                  rw [hr] at hm4
                  clear hl2 hT2 hv hvb he hr
                  go_upto_region 30 with (first
                    | (go_at_call 12; refine HL.out.mono ?_; rintro e w6 ⟨rfl, SQ⟩))
                  have SU := TwM_up (cx' := n2 + 1) (cy' := n2 + 1) (SQ : Sat w _ (TwM gx gy gp game _ _ x y (n2 + 1) n2)) (by omega) (by omega)
                  clear SZ SQ HL hq1 hq1' hm4 hee
                  have SZ : Sat w _ (SS gx (KK code cap fuel seed 0) x (n2 + 1) :: SS gy (KK code cap fuel seed 1) y (n2 + 1) :: blk gp game 24 :: []) := SU
                  clear SU
                  have G0 := SS_good SZ
                  have G1 := SS_good (SZ.sel [1])
                  have hux := HT2.out.surex G0
                  have huy := HT2.out.surey G1
                  have hgu := SF_goes HK.out hsd HAB.out.1 HAB.out.2 (min (i) (tX))
                  have hgv := SF_goes HK.out hsd HAB.out.1 HAB.out.2 (min (k) (tY))
                  have hsame := SF_same HK.out hsd HAB.out.1 HAB.out.2 (T := min (i) (tX)) (U := min (k) (tY))
                  obtain ⟨U, hU⟩ : ∃ U, SF code cap fuel seed A B (min (i) (tX)) = U := ⟨_, rfl⟩
                  obtain ⟨V, hV⟩ : ∃ V, SF code cap fuel seed A B (min (k) (tY)) = V := ⟨_, rfl⟩
                  rw [hU] at hux hgu hsame
                  rw [hV] at huy hgv hsame
                  have HUX := Lib.hid hux
                  have HVY := Lib.hid huy
                  have huo := hgu.1.ok.len
                  have hvo := hgv.1.ok.len
                  have hff := fldF2 huo
                  have hfv := fldF2 hvo
                  clear hux huy hU hV hgu hgv G0 G1
                  by_cases hfr : U.frame = V.frame
                  · obtain rfl := hsame hfr
                    have hq : (U.frame == U.frame) = true := by simp
                    have HEQ := Lib.hid (fun w' => (run_neq_state (s := U) (t := U) w' huo huo).trans (by rw [decide_eq_true rfl]))
                    clear hsame hfr huo hvo
                    go_wp2_with (first
                      | (go_at_call_of 14 (Value.pointer (some ⟨gx, 0, none⟩)); refine (sSure_any SZ).mono ?_; rw [HUX.out]; rintro e wz ⟨rfl, SZ⟩)
                      | (go_at_call_of 14 (Value.pointer (some ⟨gy, 0, none⟩)); refine (sSure_any (SZ.sel [1])).mono ?_; rw [HVY.out]; rintro e wz ⟨rfl, SQ⟩; have SZ := SQ.sel [1])
                      | (refine wpList_eq_agg (by rfl) .neq 46 _ _ rfl (r := false) rfl rfl (by kernel_rfl) (HEQ.out _) ?_))
                    go_roundw
                    case measure => simp [intOf]; omega
                    case rel => exact ⟨n2 + 1, i, k, tY, tX, x, y, by omega, by go_num, by first | rfl | go_num, by first | rfl | go_num, by first | rfl | go_num, by first | rfl | go_num, HT2.out, SZ⟩
                  · have hq : (U.frame == V.frame) = false := by simpa using hfr
                    clear hsame hfr huo hvo
                    go_wp2_with (first
                      | (go_at_call_of 14 (Value.pointer (some ⟨gx, 0, none⟩)); refine (sSure_any SZ).mono ?_; rw [HUX.out]; rintro e wz ⟨rfl, SZ⟩)
                      | (go_at_call_of 14 (Value.pointer (some ⟨gy, 0, none⟩)); refine (sSure_any (SZ.sel [1])).mono ?_; rw [HVY.out]; rintro e wz ⟨rfl, SQ⟩; have SZ := SQ.sel [1]))
                    go_roundw
                    case measure => simp [intOf]; omega
                    case rel => exact ⟨n2 + 1, i, k, tY, tX, x, y, by omega, by go_num, by first | rfl | go_num, by first | rfl | go_num, by first | rfl | go_num, by first | rfl | go_num, HT2.out, SZ⟩
                · rw [hl2] at HL
                  have hw2 : IntKind.i64.wrap ((tX : Int) + 1) = (tX : Int) + 1 := by rw [IntKind.wrap_i64]; omega
                  have HT2 := Lib.hid hT2
                  rw [hr] at hm4
                  clear hl2 hT2 hv hvb hr
                  go_upto_region 30 with (first
                    | (go_at_call 12; refine HL.out.mono ?_; rintro e w6 ⟨rfl, SQ⟩))
                  have SU := TwM_up (cx' := n2 + 1) (cy' := n2 + 1) (SQ : Sat w _ (TwM gx gy gp game _ _ s' y (n2 + 1) n2)) (by omega) (by omega)
                  clear SZ SQ HL hq1 hq1' hm4
                  have SZ : Sat w _ (SS gx (KK code cap fuel seed 0) s' (n2 + 1) :: SS gy (KK code cap fuel seed 1) y (n2 + 1) :: blk gp game 24 :: []) := SU
                  clear SU
                  have G0 := SS_good SZ
                  have G1 := SS_good (SZ.sel [1])
                  have hux := HT2.out.surex G0
                  have huy := HT2.out.surey G1
                  have hgu := SF_goes HK.out hsd HAB.out.1 HAB.out.2 (min (i) (tX + 1))
                  have hgv := SF_goes HK.out hsd HAB.out.1 HAB.out.2 (min (k) (tY))
                  have hsame := SF_same HK.out hsd HAB.out.1 HAB.out.2 (T := min (i) (tX + 1)) (U := min (k) (tY))
                  obtain ⟨U, hU⟩ : ∃ U, SF code cap fuel seed A B (min (i) (tX + 1)) = U := ⟨_, rfl⟩
                  obtain ⟨V, hV⟩ : ∃ V, SF code cap fuel seed A B (min (k) (tY)) = V := ⟨_, rfl⟩
                  rw [hU] at hux hgu hsame
                  rw [hV] at huy hgv hsame
                  have HUX := Lib.hid hux
                  have HVY := Lib.hid huy
                  have huo := hgu.1.ok.len
                  have hvo := hgv.1.ok.len
                  have hff := fldF2 huo
                  have hfv := fldF2 hvo
                  clear hux huy hU hV hgu hgv G0 G1
                  by_cases hfr : U.frame = V.frame
                  · obtain rfl := hsame hfr
                    have hq : (U.frame == U.frame) = true := by simp
                    have HEQ := Lib.hid (fun w' => (run_neq_state (s := U) (t := U) w' huo huo).trans (by rw [decide_eq_true rfl]))
                    clear hsame hfr huo hvo
                    go_wp2_with (first
                      | (go_at_call_of 14 (Value.pointer (some ⟨gx, 0, none⟩)); refine (sSure_any SZ).mono ?_; rw [HUX.out]; rintro e wz ⟨rfl, SZ⟩)
                      | (go_at_call_of 14 (Value.pointer (some ⟨gy, 0, none⟩)); refine (sSure_any (SZ.sel [1])).mono ?_; rw [HVY.out]; rintro e wz ⟨rfl, SQ⟩; have SZ := SQ.sel [1])
                      | (refine wpList_eq_agg (by rfl) .neq 46 _ _ rfl (r := false) rfl rfl (by kernel_rfl) (HEQ.out _) ?_))
                    go_roundw
                    case measure => simp [intOf]; omega
                    case rel => exact ⟨n2 + 1, i, k, tY, tX + 1, s', y, by omega, by go_num, by first | rfl | go_num, by first | rfl | go_num, by first | rfl | go_num, by first | rfl | go_num, HT2.out, SZ⟩
                  · have hq : (U.frame == V.frame) = false := by simpa using hfr
                    clear hsame hfr huo hvo
                    go_wp2_with (first
                      | (go_at_call_of 14 (Value.pointer (some ⟨gx, 0, none⟩)); refine (sSure_any SZ).mono ?_; rw [HUX.out]; rintro e wz ⟨rfl, SZ⟩)
                      | (go_at_call_of 14 (Value.pointer (some ⟨gy, 0, none⟩)); refine (sSure_any (SZ.sel [1])).mono ?_; rw [HVY.out]; rintro e wz ⟨rfl, SQ⟩; have SZ := SQ.sel [1]))
                    go_roundw
                    case measure => simp [intOf]; omega
                    case rel => exact ⟨n2 + 1, i, k, tY, tX + 1, s', y, by omega, by go_num, by first | rfl | go_num, by first | rfl | go_num, by first | rfl | go_num, by first | rfl | go_num, HT2.out, SZ⟩
              · have hq1 : decide ((tX : Int) < (k : Int)) = false := decide_eq_false (by omega)
                have hq1' : decide (tX < k) = false := decide_eq_false hlt2
                have HT2 := Lib.hid (HT.out.x1' HPN.out hr hlt2)
                rw [hr] at hm4
                clear hr
                go_upto_region 30 with fail
                have SU := TwM_up (cx' := n2 + 1) (cy' := n2 + 1) (SZ : Sat w _ (TwM gx gy gp game _ _ x y n2 n2)) (by omega) (by omega)
                clear SZ hq1 hq1' hm4
                have SZ : Sat w _ (SS gx (KK code cap fuel seed 0) x (n2 + 1) :: SS gy (KK code cap fuel seed 1) y (n2 + 1) :: blk gp game 24 :: []) := SU
                clear SU
                have G0 := SS_good SZ
                have G1 := SS_good (SZ.sel [1])
                have hux := HT2.out.surex G0
                have huy := HT2.out.surey G1
                have hgu := SF_goes HK.out hsd HAB.out.1 HAB.out.2 (min (i) (tX))
                have hgv := SF_goes HK.out hsd HAB.out.1 HAB.out.2 (min (k) (tY))
                have hsame := SF_same HK.out hsd HAB.out.1 HAB.out.2 (T := min (i) (tX)) (U := min (k) (tY))
                obtain ⟨U, hU⟩ : ∃ U, SF code cap fuel seed A B (min (i) (tX)) = U := ⟨_, rfl⟩
                obtain ⟨V, hV⟩ : ∃ V, SF code cap fuel seed A B (min (k) (tY)) = V := ⟨_, rfl⟩
                rw [hU] at hux hgu hsame
                rw [hV] at huy hgv hsame
                have HUX := Lib.hid hux
                have HVY := Lib.hid huy
                have huo := hgu.1.ok.len
                have hvo := hgv.1.ok.len
                have hff := fldF2 huo
                have hfv := fldF2 hvo
                clear hux huy hU hV hgu hgv G0 G1
                by_cases hfr : U.frame = V.frame
                · obtain rfl := hsame hfr
                  have hq : (U.frame == U.frame) = true := by simp
                  have HEQ := Lib.hid (fun w' => (run_neq_state (s := U) (t := U) w' huo huo).trans (by rw [decide_eq_true rfl]))
                  clear hsame hfr huo hvo
                  go_wp2_with (first
                    | (go_at_call_of 14 (Value.pointer (some ⟨gx, 0, none⟩)); refine (sSure_any SZ).mono ?_; rw [HUX.out]; rintro e wz ⟨rfl, SZ⟩)
                    | (go_at_call_of 14 (Value.pointer (some ⟨gy, 0, none⟩)); refine (sSure_any (SZ.sel [1])).mono ?_; rw [HVY.out]; rintro e wz ⟨rfl, SQ⟩; have SZ := SQ.sel [1])
                    | (refine wpList_eq_agg (by rfl) .neq 46 _ _ rfl (r := false) rfl rfl (by kernel_rfl) (HEQ.out _) ?_))
                  go_roundw
                  case measure => simp [intOf]; omega
                  case rel => exact ⟨n2 + 1, i, k, tY, tX, x, y, by omega, by go_num, by first | rfl | go_num, by first | rfl | go_num, by first | rfl | go_num, by first | rfl | go_num, HT2.out, SZ⟩
                · have hq : (U.frame == V.frame) = false := by simpa using hfr
                  clear hsame hfr huo hvo
                  go_wp2_with (first
                    | (go_at_call_of 14 (Value.pointer (some ⟨gx, 0, none⟩)); refine (sSure_any SZ).mono ?_; rw [HUX.out]; rintro e wz ⟨rfl, SZ⟩)
                    | (go_at_call_of 14 (Value.pointer (some ⟨gy, 0, none⟩)); refine (sSure_any (SZ.sel [1])).mono ?_; rw [HVY.out]; rintro e wz ⟨rfl, SQ⟩; have SZ := SQ.sel [1]))
                  go_roundw
                  case measure => simp [intOf]; omega
                  case rel => exact ⟨n2 + 1, i, k, tY, tX, x, y, by omega, by go_num, by first | rfl | go_num, by first | rfl | go_num, by first | rfl | go_num, by first | rfl | go_num, HT2.out, SZ⟩
      · have hd : decide ((n2 : Int) < 400) = false := decide_eq_false (by omega)
        have hd' : decide (n2 < 400) = false := decide_eq_false hlt
        have HN4 : Hid (n2 = 400) := by show _ = _; omega
        have HT4 : Hid (TI code cap fuel seed A B hl pn x y i k tY tX 400) := by rw [← HN4.out]; exact HT.out
        have SZ2 : Sat w _ (SS gx (KK code cap fuel seed 0) x n2 :: SS gy (KK code cap fuel seed 1) y n2 :: blk gp game 24 :: []) := SZ
        have HGG := Lib.hid (⟨SS_good SZ2, SS_good (SZ2.sel [1])⟩ : _ ∧ _)
        have HPL : Hid (playP code cap fuel seed (allP 0 A B hl) = (SF code cap fuel seed A B hl, 0)) := play_stL HK.out _
        have hok := (SF_goes HK.out hsd HAB.out.1 HAB.out.2 hl (seed := seed)).1.ok
        obtain ⟨N, hN⟩ : ∃ N, SF code cap fuel seed A B hl = N := ⟨_, rfl⟩
        rw [hN] at HPL hok
        have HNS := Lib.hid hN
        have HNL := Lib.hid (svals_length hok.len)
        have HEQ := Lib.hid (fun w' => (run_eql_state (s := N) (t := N) w' hok.len hok.len).trans (by rw [decide_eq_true rfl]))
        have HPB := Lib.hid (allP_u16 HAB.out.1 HAB.out.2 0 hl)
        clear SZ hok hN
        go_wp2_with fail
        clear hd hd' hlt
        go_loopw [25, 26] (fun lv iv wr => ∃ (k2 : Nat) (ao : Option Addr) (ac : Nat), k2 ≤ hl ∧ iv = .int .i64 k2 ∧ lv = .slice ao k2 ac ∧ Sat w wr (sps ao k2 ac (allP 0 A B k2) :: SS gx (KK code cap fuel seed 0) x n2 :: SS gy (KK code cap fuel seed 1) y n2 :: blk gp game 24 :: [])) (fun _ iv _ => hl - (intOf iv).toNat)
        case atStart => exact ⟨0, none, 0, by omega, rfl, rfl, Sat.own_none.2 ⟨rfl, rfl, rfl, SZ2⟩⟩
        case round =>
          as_aux_lemma =>
            clear SZ2
            obtain ⟨k2, ao, ac, hk2, rfl, rfl, S3⟩ := hrel
            by_cases hkl : k2 < hl
            · have hd : decide ((k2 : Int) < (hl : Int)) = true := decide_eq_true (by omega)
              have hd' : decide (k2 < hl) = true := decide_eq_true hkl
              obtain ⟨mb, mo, v, rfl, hx, hxb, hmc⟩ := HM.out.at hkl S3.below
              obtain ⟨hb, ho, u, rfl, hy, hyb, hyc⟩ := HH.out.at hkl S3.below
              have HMC := Lib.hid (fun (w' : World) (h : Below w.heap.size w w') => ((HM.out.rd.below h).at (j := k2) (by unfold uv; rw [List.getElem?_map, hx]; rfl) : w'.cell? ⟨mb, mo + k2, none⟩ = some (.int .u16 v)))
              have HHC := Lib.hid (fun (w' : World) (h : Below w.heap.size w w') => ((HH.out.rd.below h).at (j := k2) (by unfold uv; rw [List.getElem?_map, hy]; rfl) : w'.cell? ⟨hb, ho + k2, none⟩ = some (.int .u16 u)))
              have HXY : Hid (A[k2]?.getD 0 = v ∧ B[k2]?.getD 0 = u) := ⟨by rw [hx]; rfl, by rw [hy]; rfl⟩
              have k0 : (0 : Int) ≤ (k2 : Int) := by omega
              have k1 : (k2 : Int) < (hl : Int) := by omega
              have hw : IntKind.i64.wrap ((k2 : Int) + 1) = (k2 : Int) + 1 := by rw [IntKind.wrap_i64]; omega
              clear hmc hyc hx hy hxb hyb
              go_upto_region 36 with fail
              refine wp_region_drawn (N := 13) (LN := #[false, false, false, false, false, false, false, false, false, false, false, false, false]) (by kernel_rfl) (by kernel_rfl) (by kernel_rfl) ?_
              have S4 := S3.drew
              generalize World.drew _ = w4 at S4 ⊢
              clear S3
              refine wpAny_held (fun w' => w'.cell? ⟨mb, mo + k2, none⟩ = some (.int .u16 v) ∧ w'.cell? ⟨hb, ho + k2, none⟩ = some (.int .u16 u)) ⟨HMC.out _ S4.below, HHC.out _ S4.below⟩ (fun hHeld => ?_)
              refine wpAnyH_tk (i := 0) (v := ?_) (LN := #[true, false, false, false, false, false, false, false, false, false, false, false, false]) rfl (by kernel_rfl) (by kernel_rfl) (by kernel_rfl) (fun _ _ _ h => h) (by kernel_rfl) (by rfl) (by assumption) ?_ ?_
              rotate_left
              · intro w hSw; (try dsimp only at hSw); first | (go_simp; done) | (go_simp; with_reducible rfl)
              try simp only [Act.put, List.getElem_toArray, List.getElem_cons_zero, List.getElem_cons_succ, List.setIfInBounds_toArray, List.set_cons_zero, List.set_cons_succ]
              refine wpAnyH_tk (i := 1) (v := ?_) (LN := #[true, true, false, false, false, false, false, false, false, false, false, false, false]) rfl (by kernel_rfl) (by kernel_rfl) (by kernel_rfl) (fun _ _ _ h => h) (by kernel_rfl) (by rfl) (by assumption) ?_ ?_
              rotate_left
              · intro w hSw; (try dsimp only at hSw); first | (go_simp; done) | (go_simp; with_reducible rfl)
              try simp only [Act.put, List.getElem_toArray, List.getElem_cons_zero, List.getElem_cons_succ, List.setIfInBounds_toArray, List.set_cons_zero, List.set_cons_succ]
              refine wpAnyH_tk (i := 2) (v := ?_) (LN := #[true, true, true, false, false, false, false, false, false, false, false, false, false]) rfl (by kernel_rfl) (by kernel_rfl) (by kernel_rfl) (fun _ _ _ h => h) (by kernel_rfl) (by rfl) (by assumption) ?_ ?_
              rotate_left
              · intro w hSw; (try dsimp only at hSw); first | (go_simp; done) | (go_simp; with_reducible rfl)
              try simp only [Act.put, List.getElem_toArray, List.getElem_cons_zero, List.getElem_cons_succ, List.setIfInBounds_toArray, List.set_cons_zero, List.set_cons_succ]
              refine wpAnyH_tk (i := 3) (v := ?_) (LN := #[true, true, true, true, false, false, false, false, false, false, false, false, false]) rfl (by kernel_rfl) (by kernel_rfl) (by kernel_rfl) (fun _ _ _ h => h) (by kernel_rfl) (by rfl) (by assumption) ?_ ?_
              rotate_left
              · intro w hSw; (try dsimp only at hSw); first | (go_simp; done) | (go_simp; with_reducible rfl)
              try simp only [Act.put, List.getElem_toArray, List.getElem_cons_zero, List.getElem_cons_succ, List.setIfInBounds_toArray, List.set_cons_zero, List.set_cons_succ]
              refine wpAnyH_tk (i := 4) (v := ?_) (LN := #[true, true, true, true, true, false, false, false, false, false, false, false, false]) rfl (by kernel_rfl) (by kernel_rfl) (by kernel_rfl) (fun _ _ _ h => h) (by kernel_rfl) (by rfl) (by assumption) ?_ ?_
              rotate_left
              · intro w hSw; (try dsimp only at hSw); first | (go_simp; done) | (go_simp; with_reducible rfl)
              try simp only [Act.put, List.getElem_toArray, List.getElem_cons_zero, List.getElem_cons_succ, List.setIfInBounds_toArray, List.set_cons_zero, List.set_cons_succ]
              refine wpAnyH_tk (i := 5) (v := ?_) (LN := #[true, true, true, true, true, true, false, false, false, false, false, false, false]) rfl (by kernel_rfl) (by kernel_rfl) (by kernel_rfl) (fun _ _ _ h => h) (by kernel_rfl) (by rfl) (by assumption) ?_ ?_
              rotate_left
              · intro w hSw; (try dsimp only at hSw); first | (go_simp; done) | (go_simp; with_reducible rfl)
              try simp only [Act.put, List.getElem_toArray, List.getElem_cons_zero, List.getElem_cons_succ, List.setIfInBounds_toArray, List.set_cons_zero, List.set_cons_succ]
              refine wpAnyH_tk (i := 6) (v := ?_) (LN := #[true, true, true, true, true, true, true, false, false, false, false, false, false]) rfl (by kernel_rfl) (by kernel_rfl) (by kernel_rfl) (fun _ _ _ h => h) (by kernel_rfl) (by rfl) (by assumption) ?_ ?_
              rotate_left
              · intro w hSw; (try dsimp only at hSw); first | (go_simp; done) | (go_simp; with_reducible rfl)
              try simp only [Act.put, List.getElem_toArray, List.getElem_cons_zero, List.getElem_cons_succ, List.setIfInBounds_toArray, List.set_cons_zero, List.set_cons_succ]
              refine wpAnyH_tk (i := 7) (v := ?_) (LN := #[true, true, true, true, true, true, true, true, false, false, false, false, false]) rfl (by kernel_rfl) (by kernel_rfl) (by kernel_rfl) (fun _ _ _ h => h) (by kernel_rfl) (by rfl) (by assumption) ?_ ?_
              rotate_left
              · intro w hSw; (try dsimp only at hSw); first | (go_simp; done) | (go_simp; with_reducible rfl)
              try simp only [Act.put, List.getElem_toArray, List.getElem_cons_zero, List.getElem_cons_succ, List.setIfInBounds_toArray, List.set_cons_zero, List.set_cons_succ]
              refine wpAnyH_tk (i := 8) (v := ?_) (LN := #[true, true, true, true, true, true, true, true, true, false, false, false, false]) rfl (by kernel_rfl) (by kernel_rfl) (by kernel_rfl) (fun _ _ _ h => h) (by kernel_rfl) (by rfl) (by assumption) ?_ ?_
              rotate_left
              · intro w hSw; (try dsimp only at hSw); first | (go_simp; done) | (go_simp; with_reducible rfl)
              try simp only [Act.put, List.getElem_toArray, List.getElem_cons_zero, List.getElem_cons_succ, List.setIfInBounds_toArray, List.set_cons_zero, List.set_cons_succ]
              refine wpAnyH_tk (i := 9) (v := ?_) (LN := #[true, true, true, true, true, true, true, true, true, true, false, false, false]) rfl (by kernel_rfl) (by kernel_rfl) (by kernel_rfl) (fun _ _ _ h => h) (by kernel_rfl) (by rfl) (by assumption) ?_ ?_
              rotate_left
              · intro w hSw; (try dsimp only at hSw); first | (go_simp; done) | (go_simp; with_reducible rfl)
              try simp only [Act.put, List.getElem_toArray, List.getElem_cons_zero, List.getElem_cons_succ, List.setIfInBounds_toArray, List.set_cons_zero, List.set_cons_succ]
              refine wpAnyH_one (i := 10) (LN := #[true, true, true, true, true, true, true, true, true, true, true, false, false]) (by kernel_rfl) rfl (by kernel_rfl) ?_
              intro K hK
              go_simp
              have S5 := S4.alloc [.int .u16 v, .int .u16 u] 43
              refine hK.out _ _ ⟨HMC.out _ S5.below, HHC.out _ S5.below⟩ ?_
              clear hK K hHeld
              intro hHeld
              try simp only [Act.put, List.getElem_toArray, List.getElem_cons_zero, List.getElem_cons_succ, List.setIfInBounds_toArray, List.set_cons_zero, List.set_cons_succ]
              refine wpAnyH_one (i := 11) (LN := #[true, true, true, true, true, true, true, true, true, true, true, true, false]) (by kernel_rfl) rfl (by kernel_rfl) ?_
              intro K hK
              refine step_append_sat rfl _ _ _ rfl 43 ip _ 2 4 Tryz.underlying41 hip hp0 hp1 hp2 rfl (by decide) (S5.sel [1]) rfl rfl (Rd.lit (S5.block 0 rfl).1) rfl (by simp [Value.oneCell']) (by unfold maxLen; omega) (by omega) ?_
              intro ao' cap' w6 S6
              refine hK.out _ _ ⟨HMC.out _ S6.below, HHC.out _ S6.below⟩ ?_
              clear hK K hHeld
              intro hHeld
              try simp only [Act.put, List.getElem_toArray, List.getElem_cons_zero, List.getElem_cons_succ, List.setIfInBounds_toArray, List.set_cons_zero, List.set_cons_succ]
              refine wpAnyH_tk (i := 12) (v := ?_) (LN := #[true, true, true, true, true, true, true, true, true, true, true, true, true]) rfl (by kernel_rfl) (by kernel_rfl) (by kernel_rfl) (fun _ _ _ h => h) (by kernel_rfl) (by rfl) (by assumption) ?_ ?_
              rotate_left
              · intro w hSw; (try dsimp only at hSw); first | (go_simp; done) | (go_simp; with_reducible rfl)
              try simp only [Act.put, List.getElem_toArray, List.getElem_cons_zero, List.getElem_cons_succ, List.setIfInBounds_toArray, List.set_cons_zero, List.set_cons_succ]
              refine ⟨by kernel_rfl, ?_⟩
              try simp only [Act.put, List.getElem_toArray, List.getElem_cons_zero, List.getElem_cons_succ, List.setIfInBounds_toArray, List.set_cons_zero, List.set_cons_succ]
              clear hHeld
              go_wp2_with fail
              go_roundw
              case measure => simp [intOf]; omega
              case rel =>
                refine ⟨k2 + 1, ao', cap', by omega, by go_num, rfl, ?_⟩
                have e2 : pv (allP 0 A B (k2 + 1)) = pv (allP 0 A B k2) ++ [.int .u16 v, .int .u16 u] := by
                  rw [allP_succ, if_pos rfl, pv_append, HXY.out.1, HXY.out.2]; rfl
                unfold sps
                rw [e2]
                exact (S6.sel [1]).tail
            · have hd : decide ((k2 : Int) < (hl : Int)) = false := decide_eq_false (by omega)
              have hd' : decide (k2 < hl) = false := decide_eq_false hkl
              obtain rfl : k2 = hl := by omega
              have hga := HGA.out
              subst hga
              go_upto_region 38 with (first
                | (refine wpList_load_part rfl 24 _ rfl (n := 3) rfl (Sat.whole (S3.sel [3]) 3) rfl Tryz.underlying24 rfl Tryz.sizeG ?_)
                | (go_at_call 13; refine (r11play_any S3 (fun w' h => HRD.out _ _ h) HN.out hnm cap fuel seed hsd (fun w' h => by rw [← pv_pairsv]; exact h.own_rd) (allP_length _ _ _ _) (by omega) HPB.out).mono ?_; unfold Stepped; rw [HPL.out]; rintro e w17 ⟨rfl, S17⟩; have S18 := S17.alloc [.int .i64 0, .int .i32 0, .int .i32 0, .int .i32 0, .int .i32 0, .int .i32 0, .int .i32 0, .int .i32 0, .int .i32 0, .int .i32 0, .int .i32 0, .int .i32 0, .int .i32 0, .int .i32 0, .int .i32 0, .int .i32 0, .int .i32 0, .int .u32 0, .bool false, .int .i64 0] 46)
                | (refine wpList_store_sat (off := 0) (n := 20) rfl 46 _ _ rfl S18 rfl rfl HNL.out (by decide) Tryz.sizeS (svals_one N) ?_; intro w19 S19; rw [zstore] at S19))
              have S20 : Sat w w19 (blk w17.heap.size (svals N) 46 :: SS gx (KK code cap fuel seed 0) x n2 :: SS gy (KK code cap fuel seed 1) y n2 :: sps ao k2 ac (allP 0 A B k2) :: blk gp [.slice a n c, .int .i64 cap, .int .i64 fuel] 24 :: []) := S19.sel [0, 1, 1]
              generalize w17.heap.size = pb at S20 ⊢
              clear S3 S17 S18 S19 hd hd'
              by_cases hp100 : 100 < pn
              · have hq : decide ((100 : Int) < (pn : Int)) = true := decide_eq_true (by omega)
                have hq' : decide (100 < pn) = true := decide_eq_true hp100
                refine wp_region_drawn (N := 19) (LN := #[false, false, false, false, false, false, false, false, false, false, false, false, false, false, false, false, false, false, false]) (by kernel_rfl) (by kernel_rfl) (by kernel_rfl) ?_
                have S21 := S20.drew
                generalize World.drew _ = w21 at S21 ⊢
                clear S20
                refine wpAny_held (fun w' => ∀ j, j < 20 → w'.cell? ⟨pb, 0 + j, none⟩ = (svals N)[j]?) (Sat.whole S21 20) (fun hHeld => ?_)
                refine wpAnyH_tk (i := 0) (v := ?_) (LN := #[true, false, false, false, false, false, false, false, false, false, false, false, false, false, false, false, false, false, false]) rfl (by kernel_rfl) (by kernel_rfl) (by kernel_rfl) (fun _ _ _ h => h) (by kernel_rfl) (by rfl) (by assumption) ?_ ?_
                rotate_left
                · intro w hSw; (try dsimp only at hSw); first | (go_simp; done) | (go_simp; with_reducible rfl)
                try simp only [Act.put, List.getElem_toArray, List.getElem_cons_zero, List.getElem_cons_succ, List.setIfInBounds_toArray, List.set_cons_zero, List.set_cons_succ]
                refine wpAnyH_tk (i := 1) (v := ?_) (LN := #[true, true, false, false, false, false, false, false, false, false, false, false, false, false, false, false, false, false, false]) rfl (by kernel_rfl) (by kernel_rfl) (by kernel_rfl) (fun _ _ _ h => h) (by kernel_rfl) (by rfl) (by assumption) ?_ ?_
                rotate_left
                · intro w hSw; (try dsimp only at hSw); first | (go_simp; done) | (go_simp; with_reducible rfl)
                try simp only [Act.put, List.getElem_toArray, List.getElem_cons_zero, List.getElem_cons_succ, List.setIfInBounds_toArray, List.set_cons_zero, List.set_cons_succ]
                refine wpAnyH_tk (i := 2) (v := ?_) (LN := #[true, true, true, false, false, false, false, false, false, false, false, false, false, false, false, false, false, false, false]) rfl (by kernel_rfl) (by kernel_rfl) (by kernel_rfl) (fun _ _ _ h => h) (by kernel_rfl) (by rfl) (by assumption) ?_ ?_
                rotate_left
                · intro w hSw; (try dsimp only at hSw); first | (go_simp; done) | (go_simp; with_reducible rfl)
                try simp only [Act.put, List.getElem_toArray, List.getElem_cons_zero, List.getElem_cons_succ, List.setIfInBounds_toArray, List.set_cons_zero, List.set_cons_succ]
                refine wpAnyH_tk (i := 3) (v := ?_) (LN := #[true, true, true, true, false, false, false, false, false, false, false, false, false, false, false, false, false, false, false]) rfl (by kernel_rfl) (by kernel_rfl) (by kernel_rfl) (fun _ _ _ h => h) (by kernel_rfl) (by rfl) (by assumption) ?_ ?_
                rotate_left
                · intro w hSw; (try dsimp only at hSw); first | (go_simp; done) | (go_simp; with_reducible rfl)
                try simp only [Act.put, List.getElem_toArray, List.getElem_cons_zero, List.getElem_cons_succ, List.setIfInBounds_toArray, List.set_cons_zero, List.set_cons_succ]
                refine wpAnyH_off (i := 4) (LN := #[true, true, true, true, true, false, false, false, false, false, false, false, false, false, false, false, false, false, false]) rfl (by kernel_rfl) (by kernel_rfl) (by kernel_rfl) (fun _ _ _ h => h) (by kernel_rfl) (by rfl) (by assumption) ?_
                try simp only [Act.put, List.getElem_toArray, List.getElem_cons_zero, List.getElem_cons_succ, List.setIfInBounds_toArray, List.set_cons_zero, List.set_cons_succ]
                refine wpAnyH_off (i := 5) (LN := #[true, true, true, true, true, true, false, false, false, false, false, false, false, false, false, false, false, false, false]) rfl (by kernel_rfl) (by kernel_rfl) (by kernel_rfl) (fun _ _ _ h => h) (by kernel_rfl) (by rfl) (by assumption) ?_
                try simp only [Act.put, List.getElem_toArray, List.getElem_cons_zero, List.getElem_cons_succ, List.setIfInBounds_toArray, List.set_cons_zero, List.set_cons_succ]
                refine wpAnyH_off (i := 6) (LN := #[true, true, true, true, true, true, true, false, false, false, false, false, false, false, false, false, false, false, false]) rfl (by kernel_rfl) (by kernel_rfl) (by kernel_rfl) (fun _ _ _ h => h) (by kernel_rfl) (by rfl) (by assumption) ?_
                try simp only [Act.put, List.getElem_toArray, List.getElem_cons_zero, List.getElem_cons_succ, List.setIfInBounds_toArray, List.set_cons_zero, List.set_cons_succ]
                refine wpAnyH_off (i := 7) (LN := #[true, true, true, true, true, true, true, true, false, false, false, false, false, false, false, false, false, false, false]) rfl (by kernel_rfl) (by kernel_rfl) (by kernel_rfl) (fun _ _ _ h => h) (by kernel_rfl) (by rfl) (by assumption) ?_
                try simp only [Act.put, List.getElem_toArray, List.getElem_cons_zero, List.getElem_cons_succ, List.setIfInBounds_toArray, List.set_cons_zero, List.set_cons_succ]
                refine wpAnyH_off (i := 8) (LN := #[true, true, true, true, true, true, true, true, true, false, false, false, false, false, false, false, false, false, false]) rfl (by kernel_rfl) (by kernel_rfl) (by kernel_rfl) (fun _ _ _ h => h) (by kernel_rfl) (by rfl) (by assumption) ?_
                try simp only [Act.put, List.getElem_toArray, List.getElem_cons_zero, List.getElem_cons_succ, List.setIfInBounds_toArray, List.set_cons_zero, List.set_cons_succ]
                refine wpAnyH_off (i := 9) (LN := #[true, true, true, true, true, true, true, true, true, true, false, false, false, false, false, false, false, false, false]) rfl (by kernel_rfl) (by kernel_rfl) (by kernel_rfl) (fun _ _ _ h => h) (by kernel_rfl) (by rfl) (by assumption) ?_
                try simp only [Act.put, List.getElem_toArray, List.getElem_cons_zero, List.getElem_cons_succ, List.setIfInBounds_toArray, List.set_cons_zero, List.set_cons_succ]
                refine wpAnyH_off (i := 10) (LN := #[true, true, true, true, true, true, true, true, true, true, true, false, false, false, false, false, false, false, false]) rfl (by kernel_rfl) (by kernel_rfl) (by kernel_rfl) (fun _ _ _ h => h) (by kernel_rfl) (by rfl) (by assumption) ?_
                try simp only [Act.put, List.getElem_toArray, List.getElem_cons_zero, List.getElem_cons_succ, List.setIfInBounds_toArray, List.set_cons_zero, List.set_cons_succ]
                refine wpAnyH_off (i := 11) (LN := #[true, true, true, true, true, true, true, true, true, true, true, true, false, false, false, false, false, false, false]) rfl (by kernel_rfl) (by kernel_rfl) (by kernel_rfl) (fun _ _ _ h => h) (by kernel_rfl) (by rfl) (by assumption) ?_
                try simp only [Act.put, List.getElem_toArray, List.getElem_cons_zero, List.getElem_cons_succ, List.setIfInBounds_toArray, List.set_cons_zero, List.set_cons_succ]
                refine wpAnyH_off (i := 12) (LN := #[true, true, true, true, true, true, true, true, true, true, true, true, true, false, false, false, false, false, false]) rfl (by kernel_rfl) (by kernel_rfl) (by kernel_rfl) (fun _ _ _ h => h) (by kernel_rfl) (by rfl) (by assumption) ?_
                try simp only [Act.put, List.getElem_toArray, List.getElem_cons_zero, List.getElem_cons_succ, List.setIfInBounds_toArray, List.set_cons_zero, List.set_cons_succ]
                refine wpAnyH_off (i := 13) (LN := #[true, true, true, true, true, true, true, true, true, true, true, true, true, true, false, false, false, false, false]) rfl (by kernel_rfl) (by kernel_rfl) (by kernel_rfl) (fun _ _ _ h => h) (by kernel_rfl) (by rfl) (by assumption) ?_
                try simp only [Act.put, List.getElem_toArray, List.getElem_cons_zero, List.getElem_cons_succ, List.setIfInBounds_toArray, List.set_cons_zero, List.set_cons_succ]
                refine wpAnyH_tk (i := 14) (v := ?_) (LN := #[true, true, true, true, true, true, true, true, true, true, true, true, true, true, true, false, false, false, false]) rfl (by kernel_rfl) (by kernel_rfl) (by kernel_rfl) (fun _ _ _ h => h) (by kernel_rfl) (by rfl) (by assumption) ?_ ?_
                rotate_left
                · intro w hSw; (try dsimp only at hSw); first | (go_simp; done) | (go_simp; with_reducible rfl)
                try simp only [Act.put, List.getElem_toArray, List.getElem_cons_zero, List.getElem_cons_succ, List.setIfInBounds_toArray, List.set_cons_zero, List.set_cons_succ]
                refine wpAnyH_tk (i := 15) (v := ?_) (LN := #[true, true, true, true, true, true, true, true, true, true, true, true, true, true, true, true, false, false, false]) rfl (by kernel_rfl) (by kernel_rfl) (by kernel_rfl) (fun _ _ _ h => h) (by kernel_rfl) (by rfl) (by assumption) ?_ ?_
                rotate_left
                · intro w hSw; (try dsimp only at hSw); first | (go_simp; done) | (go_simp; with_reducible rfl)
                try simp only [Act.put, List.getElem_toArray, List.getElem_cons_zero, List.getElem_cons_succ, List.setIfInBounds_toArray, List.set_cons_zero, List.set_cons_succ]
                refine wpAnyH_one (i := 16) (LN := #[true, true, true, true, true, true, true, true, true, true, true, true, true, true, true, true, true, false, false]) (by kernel_rfl) rfl (by kernel_rfl) ?_
                intro K hK
                go_simp
                go_at_call 9
                refine (lknown_any S21).mono ?_
                rintro e w22 ⟨rfl, S22⟩
                go_wp2_with fail
                refine hK.out _ _ (Sat.whole (S22.sel [0]) 20) ?_
                clear hK K hHeld
                intro hHeld
                try simp only [Act.put, List.getElem_toArray, List.getElem_cons_zero, List.getElem_cons_succ, List.setIfInBounds_toArray, List.set_cons_zero, List.set_cons_succ]
                refine wpAnyH_tk (i := 17) (v := ?_) (LN := #[true, true, true, true, true, true, true, true, true, true, true, true, true, true, true, true, true, true, false]) rfl (by kernel_rfl) (by kernel_rfl) (by kernel_rfl) (fun _ _ _ h => h) (by kernel_rfl) (by rfl) (by assumption) ?_ ?_
                rotate_left
                · intro w hSw; (try dsimp only at hSw); first | (go_simp; done) | (go_simp; with_reducible rfl)
                try simp only [Act.put, List.getElem_toArray, List.getElem_cons_zero, List.getElem_cons_succ, List.setIfInBounds_toArray, List.set_cons_zero, List.set_cons_succ]
                refine wpAnyH_tk (i := 18) (v := ?_) (LN := #[true, true, true, true, true, true, true, true, true, true, true, true, true, true, true, true, true, true, true]) rfl (by kernel_rfl) (by kernel_rfl) (by kernel_rfl) (fun _ _ _ h => h) (by kernel_rfl) (by rfl) (by assumption) ?_ ?_
                rotate_left
                · intro w hSw; (try dsimp only at hSw); first | (go_simp; done) | (go_simp; with_reducible rfl)
                try simp only [Act.put, List.getElem_toArray, List.getElem_cons_zero, List.getElem_cons_succ, List.setIfInBounds_toArray, List.set_cons_zero, List.set_cons_succ]
                refine ⟨by kernel_rfl, ?_⟩
                try simp only [Act.put, List.getElem_toArray, List.getElem_cons_zero, List.getElem_cons_succ, List.setIfInBounds_toArray, List.set_cons_zero, List.set_cons_succ]
                go_wp2_with fail
                go_ret
                exact ⟨rfl, S22.below⟩
              · have hq : decide ((100 : Int) < (pn : Int)) = false := decide_eq_false (by omega)
                have hq' : decide (100 < pn) = false := decide_eq_false hp100
                have hfin := HT4.out.fin hN40 (by omega) HGG.out.1 HGG.out.2
                rw [HNS.out] at hfin
                have HF := Lib.hid hfin
                clear hfin
                refine wp_region_drawn (N := 19) (LN := #[false, false, false, false, false, false, false, false, false, false, false, false, false, false, false, false, false, false, false]) (by kernel_rfl) (by kernel_rfl) (by kernel_rfl) ?_
                have S21 := S20.drew
                generalize World.drew _ = w21 at S21 ⊢
                clear S20
                refine wpAny_held (fun w' => ∀ j, j < 20 → w'.cell? ⟨pb, 0 + j, none⟩ = (svals N)[j]?) (Sat.whole S21 20) (fun hHeld => ?_)
                refine wpAnyH_tk (i := 0) (v := ?_) (LN := #[true, false, false, false, false, false, false, false, false, false, false, false, false, false, false, false, false, false, false]) rfl (by kernel_rfl) (by kernel_rfl) (by kernel_rfl) (fun _ _ _ h => h) (by kernel_rfl) (by rfl) (by assumption) ?_ ?_
                rotate_left
                · intro w hSw; (try dsimp only at hSw); first | (go_simp; done) | (go_simp; with_reducible rfl)
                try simp only [Act.put, List.getElem_toArray, List.getElem_cons_zero, List.getElem_cons_succ, List.setIfInBounds_toArray, List.set_cons_zero, List.set_cons_succ]
                refine wpAnyH_tk (i := 1) (v := ?_) (LN := #[true, true, false, false, false, false, false, false, false, false, false, false, false, false, false, false, false, false, false]) rfl (by kernel_rfl) (by kernel_rfl) (by kernel_rfl) (fun _ _ _ h => h) (by kernel_rfl) (by rfl) (by assumption) ?_ ?_
                rotate_left
                · intro w hSw; (try dsimp only at hSw); first | (go_simp; done) | (go_simp; with_reducible rfl)
                try simp only [Act.put, List.getElem_toArray, List.getElem_cons_zero, List.getElem_cons_succ, List.setIfInBounds_toArray, List.set_cons_zero, List.set_cons_succ]
                refine wpAnyH_tk (i := 2) (v := ?_) (LN := #[true, true, true, false, false, false, false, false, false, false, false, false, false, false, false, false, false, false, false]) rfl (by kernel_rfl) (by kernel_rfl) (by kernel_rfl) (fun _ _ _ h => h) (by kernel_rfl) (by rfl) (by assumption) ?_ ?_
                rotate_left
                · intro w hSw; (try dsimp only at hSw); first | (go_simp; done) | (go_simp; with_reducible rfl)
                try simp only [Act.put, List.getElem_toArray, List.getElem_cons_zero, List.getElem_cons_succ, List.setIfInBounds_toArray, List.set_cons_zero, List.set_cons_succ]
                refine wpAnyH_tk (i := 3) (v := ?_) (LN := #[true, true, true, true, false, false, false, false, false, false, false, false, false, false, false, false, false, false, false]) rfl (by kernel_rfl) (by kernel_rfl) (by kernel_rfl) (fun _ _ _ h => h) (by kernel_rfl) (by rfl) (by assumption) ?_ ?_
                rotate_left
                · intro w hSw; (try dsimp only at hSw); first | (go_simp; done) | (go_simp; with_reducible rfl)
                try simp only [Act.put, List.getElem_toArray, List.getElem_cons_zero, List.getElem_cons_succ, List.setIfInBounds_toArray, List.set_cons_zero, List.set_cons_succ]
                refine wpAnyH_tk (i := 4) (v := ?_) (LN := #[true, true, true, true, true, false, false, false, false, false, false, false, false, false, false, false, false, false, false]) rfl (by kernel_rfl) (by kernel_rfl) (by kernel_rfl) (fun _ _ _ h => h) (by kernel_rfl) (by rfl) (by assumption) ?_ ?_
                rotate_left
                · intro w hSw; (try dsimp only at hSw); first | (go_simp; done) | (go_simp; with_reducible rfl)
                try simp only [Act.put, List.getElem_toArray, List.getElem_cons_zero, List.getElem_cons_succ, List.setIfInBounds_toArray, List.set_cons_zero, List.set_cons_succ]
                refine wpAnyH_tk (i := 6) (LN := #[true, true, true, true, true, false, true, false, false, false, false, false, false, false, false, false, false, false, false]) rfl (by kernel_rfl) (by kernel_rfl) (by kernel_rfl) (fun _ _ _ h => h) (by kernel_rfl) (by rfl) (by assumption) (fun w h => run_load_part 46 _ rfl (g := pb) (off := 0) (n := 20) rfl (h) HNL.out Tryz.underlying46 rfl (by kernel_rfl)) ?_
                try simp only [Act.put, List.getElem_toArray, List.getElem_cons_zero, List.getElem_cons_succ, List.setIfInBounds_toArray, List.set_cons_zero, List.set_cons_succ]
                refine wpAnyH_one (i := 5) (LN := #[true, true, true, true, true, true, true, false, false, false, false, false, false, false, false, false, false, false, false]) (by kernel_rfl) rfl (by kernel_rfl) ?_
                intro K hK
                go_simp
                go_at_call 14
                refine (sSure_any (S21.sel [1])).mono ?_
                rw [HF.out.1]
                rintro e w22 ⟨rfl, S22⟩
                go_wp2_with fail
                refine hK.out _ _ (Sat.whole (S22.sel [1]) 20) ?_
                clear hK K hHeld
                intro hHeld
                try simp only [Act.put, List.getElem_toArray, List.getElem_cons_zero, List.getElem_cons_succ, List.setIfInBounds_toArray, List.set_cons_zero, List.set_cons_succ]
                refine wpAnyH_tk (i := 7) (LN := #[true, true, true, true, true, true, true, true, false, false, false, false, false, false, false, false, false, false, false]) rfl (by kernel_rfl) (by kernel_rfl) (by kernel_rfl) (fun _ _ _ h => h) (by kernel_rfl) (by rfl) (by assumption) (fun w h => run_eq_part .eql 46 _ _ rfl (r := true) rfl rfl (by kernel_rfl) (HEQ.out _)) ?_
                try simp only [Act.put, List.getElem_toArray, List.getElem_cons_zero, List.getElem_cons_succ, List.setIfInBounds_toArray, List.set_cons_zero, List.set_cons_succ]
                refine wpAnyH_tk (i := 8) (v := ?_) (LN := #[true, true, true, true, true, true, true, true, true, false, false, false, false, false, false, false, false, false, false]) rfl (by kernel_rfl) (by kernel_rfl) (by kernel_rfl) (fun _ _ _ h => h) (by kernel_rfl) (by rfl) (by assumption) ?_ ?_
                rotate_left
                · intro w hSw; (try dsimp only at hSw); first | (go_simp; done) | (go_simp; with_reducible rfl)
                try simp only [Act.put, List.getElem_toArray, List.getElem_cons_zero, List.getElem_cons_succ, List.setIfInBounds_toArray, List.set_cons_zero, List.set_cons_succ]
                refine wpAnyH_tk (i := 9) (v := ?_) (LN := #[true, true, true, true, true, true, true, true, true, true, false, false, false, false, false, false, false, false, false]) rfl (by kernel_rfl) (by kernel_rfl) (by kernel_rfl) (fun _ _ _ h => h) (by kernel_rfl) (by rfl) (by assumption) ?_ ?_
                rotate_left
                · intro w hSw; (try dsimp only at hSw); first | (go_simp; done) | (go_simp; with_reducible rfl)
                try simp only [Act.put, List.getElem_toArray, List.getElem_cons_zero, List.getElem_cons_succ, List.setIfInBounds_toArray, List.set_cons_zero, List.set_cons_succ]
                refine wpAnyH_tk (i := 11) (LN := #[true, true, true, true, true, true, true, true, true, true, false, true, false, false, false, false, false, false, false]) rfl (by kernel_rfl) (by kernel_rfl) (by kernel_rfl) (fun _ _ _ h => h) (by kernel_rfl) (by rfl) (by assumption) (fun w h => run_load_part 46 _ rfl (g := pb) (off := 0) (n := 20) rfl (h) HNL.out Tryz.underlying46 rfl (by kernel_rfl)) ?_
                try simp only [Act.put, List.getElem_toArray, List.getElem_cons_zero, List.getElem_cons_succ, List.setIfInBounds_toArray, List.set_cons_zero, List.set_cons_succ]
                refine wpAnyH_one (i := 10) (LN := #[true, true, true, true, true, true, true, true, true, true, true, true, false, false, false, false, false, false, false]) (by kernel_rfl) rfl (by kernel_rfl) ?_
                intro K hK
                go_simp
                go_at_call 14
                refine (sSure_any (S22.sel [2])).mono ?_
                rw [HF.out.2]
                rintro e w23 ⟨rfl, S23⟩
                go_wp2_with fail
                refine hK.out _ _ (Sat.whole (S23.sel [2]) 20) ?_
                clear hK K hHeld
                intro hHeld
                try simp only [Act.put, List.getElem_toArray, List.getElem_cons_zero, List.getElem_cons_succ, List.setIfInBounds_toArray, List.set_cons_zero, List.set_cons_succ]
                refine wpAnyH_tk (i := 12) (LN := #[true, true, true, true, true, true, true, true, true, true, true, true, true, false, false, false, false, false, false]) rfl (by kernel_rfl) (by kernel_rfl) (by kernel_rfl) (fun _ _ _ h => h) (by kernel_rfl) (by rfl) (by assumption) (fun w h => run_eq_part .eql 46 _ _ rfl (r := true) rfl rfl (by kernel_rfl) (HEQ.out _)) ?_
                try simp only [Act.put, List.getElem_toArray, List.getElem_cons_zero, List.getElem_cons_succ, List.setIfInBounds_toArray, List.set_cons_zero, List.set_cons_succ]
                refine wpAnyH_tk (i := 13) (v := ?_) (LN := #[true, true, true, true, true, true, true, true, true, true, true, true, true, true, false, false, false, false, false]) rfl (by kernel_rfl) (by kernel_rfl) (by kernel_rfl) (fun _ _ _ h => h) (by kernel_rfl) (by rfl) (by assumption) ?_ ?_
                rotate_left
                · intro w hSw; (try dsimp only at hSw); first | (go_simp; done) | (go_simp; with_reducible rfl)
                try simp only [Act.put, List.getElem_toArray, List.getElem_cons_zero, List.getElem_cons_succ, List.setIfInBounds_toArray, List.set_cons_zero, List.set_cons_succ]
                refine wpAnyH_tk (i := 14) (v := ?_) (LN := #[true, true, true, true, true, true, true, true, true, true, true, true, true, true, true, false, false, false, false]) rfl (by kernel_rfl) (by kernel_rfl) (by kernel_rfl) (fun _ _ _ h => h) (by kernel_rfl) (by rfl) (by assumption) ?_ ?_
                rotate_left
                · intro w hSw; (try dsimp only at hSw); first | (go_simp; done) | (go_simp; with_reducible rfl)
                try simp only [Act.put, List.getElem_toArray, List.getElem_cons_zero, List.getElem_cons_succ, List.setIfInBounds_toArray, List.set_cons_zero, List.set_cons_succ]
                refine wpAnyH_tk (i := 15) (v := ?_) (LN := #[true, true, true, true, true, true, true, true, true, true, true, true, true, true, true, true, false, false, false]) rfl (by kernel_rfl) (by kernel_rfl) (by kernel_rfl) (fun _ _ _ h => h) (by kernel_rfl) (by rfl) (by assumption) ?_ ?_
                rotate_left
                · intro w hSw; (try dsimp only at hSw); first | (go_simp; done) | (go_simp; with_reducible rfl)
                try simp only [Act.put, List.getElem_toArray, List.getElem_cons_zero, List.getElem_cons_succ, List.setIfInBounds_toArray, List.set_cons_zero, List.set_cons_succ]
                refine wpAnyH_one (i := 16) (LN := #[true, true, true, true, true, true, true, true, true, true, true, true, true, true, true, true, true, false, false]) (by kernel_rfl) rfl (by kernel_rfl) ?_
                intro K hK
                go_simp
                go_at_call 9
                refine (lknown_any S23).mono ?_
                rintro e w24 ⟨rfl, S24⟩
                go_wp2_with fail
                refine hK.out _ _ (Sat.whole (S24.sel [2]) 20) ?_
                clear hK K hHeld
                intro hHeld
                try simp only [Act.put, List.getElem_toArray, List.getElem_cons_zero, List.getElem_cons_succ, List.setIfInBounds_toArray, List.set_cons_zero, List.set_cons_succ]
                refine wpAnyH_tk (i := 17) (v := ?_) (LN := #[true, true, true, true, true, true, true, true, true, true, true, true, true, true, true, true, true, true, false]) rfl (by kernel_rfl) (by kernel_rfl) (by kernel_rfl) (fun _ _ _ h => h) (by kernel_rfl) (by rfl) (by assumption) ?_ ?_
                rotate_left
                · intro w hSw; (try dsimp only at hSw); first | (go_simp; done) | (go_simp; with_reducible rfl)
                try simp only [Act.put, List.getElem_toArray, List.getElem_cons_zero, List.getElem_cons_succ, List.setIfInBounds_toArray, List.set_cons_zero, List.set_cons_succ]
                refine wpAnyH_tk (i := 18) (v := ?_) (LN := #[true, true, true, true, true, true, true, true, true, true, true, true, true, true, true, true, true, true, true]) rfl (by kernel_rfl) (by kernel_rfl) (by kernel_rfl) (fun _ _ _ h => h) (by kernel_rfl) (by rfl) (by assumption) ?_ ?_
                rotate_left
                · intro w hSw; (try dsimp only at hSw); first | (go_simp; done) | (go_simp; with_reducible rfl)
                try simp only [Act.put, List.getElem_toArray, List.getElem_cons_zero, List.getElem_cons_succ, List.setIfInBounds_toArray, List.set_cons_zero, List.set_cons_succ]
                refine ⟨by kernel_rfl, ?_⟩
                try simp only [Act.put, List.getElem_toArray, List.getElem_cons_zero, List.getElem_cons_succ, List.setIfInBounds_toArray, List.set_cons_zero, List.set_cons_succ]
                go_wp2_with fail
                go_ret
                exact ⟨rfl, S24.below⟩
end Go.Proofs.YtjdeeloemhjbhaaGreat
