/-
  The law RollbackSure, walked.
-/
import Derived.Test.YtjdeeloemhjbhaaGreatQRbI2
import Derived.Test.YtjdeeloemhjbhaaGreatQLaw0

namespace Go.Proofs.YtjdeeloemhjbhaaGreat
open Go.RowKit Go.Sep Go.Oct Go.Vm Go.Inp
set_option linter.unusedSimpArgs false

/-- what lies in memory in the round -/
def SureM (g gp tb : Nat) (game : List Value) (J : SK) (s : PS) (cc : Nat) (la : Option Addr) (ln lc : Nat) (left : List Int) (told : List Bool) : List Asn :=
  [lis la ln lc left, SS g J s cc, blk tb (kv told) 4, blk gp game 24]
theorem SS_up {W0 w : World} {L : List Asn} {g : Nat} {J : SK} {s : PS} {c c' : Nat} (S : Sat W0 w (SS g J s c :: L)) (h : c ≤ c') : Sat W0 w (SS g J s c' :: L) := by
  obtain ⟨r, ring, lo, hi, u, n, m, hi2, S1⟩ := SS_open.1 S
  have h1 := hi2.st
  have h2 := hi2.wr
  exact SS_open.2 ⟨r, ring, lo, hi, u, n, m, ⟨hi2.inv, hi2.hk, hi2.hs, hi2.ro, hi2.qo, hi2.qr, hi2.qn, hi2.hme, hi2.seat, hi2.ne, hi2.se, hi2.mb, hi2.own, hi2.dn, ⟨h1.1, by omega⟩, h2.1, h2.2.1, by omega⟩, S1⟩
theorem SureM_up {W0 w : World} {g gp tb : Nat} {game : List Value} {J : SK} {s : PS} {c c' : Nat} {la : Option Addr} {ln lc : Nat} {left : List Int} {told : List Bool} (S : Sat W0 w (SureM g gp tb game J s c la ln lc left told)) (h : c ≤ c') : Sat W0 w (SureM g gp tb game J s c' la ln lc left told) :=
  (SS_up ((S : Sat W0 w (lis la ln lc left :: SS g J s c :: blk tb (kv told) 4 :: blk gp game 24 :: [])).swap) h).swap
set_option maxRecDepth 100000 in
set_option maxHeartbeats 12800000 in
theorem RollbackSure_walk {w : World} {a : Option Addr} {n c : Nat} {code : List (Int × Int)} (hR : Rd w a (insv code)) (hn : code.length = n) (hnm : n ≤ maxLen) (cap fuel : Int) (seed : Int) (hsd : 0 ≤ seed ∧ seed < 4294967296) (me : Int)
    {ma : Option Addr} {mn mc : Nat} {mine : List Int} (hM : U16R w ma mn mine) {ha : Option Addr} {hl hc : Nat} {his : List Int} (hH : U16R w ha hl his) {pa : Option Addr} {pn pc : Nat} {picks : List Int} (hP : I64R w pa pn picks) :
    Calls Tryz.prog 3 #[.agg #[.slice a n c, .int .i64 cap, .int .i64 fuel], .int .u32 seed, .int .i64 me, .slice ma mn mc, .slice ha hl hc, .slice pa pn pc] w fun e w' => e = .returned (.bool true) ∧ Below w.heap.size w w' := by
  have S0 := Sat.start w
  have S1 := S0.alloc [.slice a n c, .int .i64 cap, .int .i64 fuel] 24
  have HRD : Hid (∀ (M : List Asn) (w' : World), Sat w w' M → Rd w' a (insv code)) := fun M w' h => hR.below h.below
  have HN := Lib.hid hn
  have HM := Lib.hid hM
  have HH := Lib.hid hH
  have HP := Lib.hid hP
  have hmt := hM.top
  have hht := hH.top
  have hpt := hP.top
  clear hR hn hM hH hP
  cases hsl : slowP n fuel with
  | true =>
    go_enter Tryz.func3, Tryz.ntmps3
    go_wp2_with (first
      | (refine wpList_load_part rfl 24 _ rfl (n := 3) rfl (Sat.whole S1 3) rfl Tryz.underlying24 rfl Tryz.sizeG ?_)
      | (go_at_call 7; refine (slow_any S1 a n c cap fuel).mono ?_; rw [hsl]; rintro e w2 ⟨rfl, S2⟩)
      | (go_at_call 9; refine (lknown_any S2).mono ?_; rintro e w5 ⟨rfl, S5⟩))
    go_ret
    exact ⟨rfl, S5.below⟩
  | false =>
    obtain ⟨e0, he0⟩ : ∃ e0, checkP code cap fuel = e0 := ⟨_, rfl⟩
    have HC := Lib.hid (fun w' M (S : Sat w w' M) => r10check_any S (c := c) (fun w' h => HRD.out _ _ h) HN.out hnm cap fuel)
    rw [he0] at HC
    by_cases hk : e0 = 0
    rotate_left
    · have hne : (e0 != 0) = true := by simpa using hk
      go_enter Tryz.func3, Tryz.ntmps3
      go_wp2_with (first
        | (go_at_call 7; refine (slow_any S1 a n c cap fuel).mono ?_; rw [hsl]; rintro e w2 ⟨rfl, S2⟩)
        | (go_at_call 8; refine (HC.out _ _ S2).mono ?_; rintro e w3 ⟨rfl, S3⟩)
        | (refine wpList_load_guard (by rfl) 24 _ rfl (n := 3) rfl (Sat.whole S2 3) rfl Tryz.underlying24 rfl Tryz.sizeG ?_)
        | (refine wpList_load_part rfl 24 _ rfl (n := 3) rfl (Sat.whole S1 3) rfl Tryz.underlying24 rfl Tryz.sizeG ?_)
        | (go_at_call 9; refine (lknown_any S3).mono ?_; rintro e w5 ⟨rfl, S5⟩))
      go_ret
      exact ⟨rfl, S5.below⟩
    rw [hk] at he0 HC
    clear hk
    by_cases hm60 : 60 < mn
    · have d1 : decide ((60 : Int) < (mn : Int)) = true := decide_eq_true (by omega)
      have d1' : decide (60 < mn) = true := decide_eq_true hm60
      go_enter Tryz.func3, Tryz.ntmps3
      go_wp2_with (first
        | (go_at_call 7; refine (slow_any S1 a n c cap fuel).mono ?_; rw [hsl]; rintro e w2 ⟨rfl, S2⟩)
        | (go_at_call 8; refine (HC.out _ _ S2).mono ?_; rintro e w3 ⟨rfl, S3⟩)
        | (refine wpList_load_guard (by rfl) 24 _ rfl (n := 3) rfl (Sat.whole S2 3) rfl Tryz.underlying24 rfl Tryz.sizeG ?_)
        | (refine wpList_load_part rfl 24 _ rfl (n := 3) rfl (Sat.whole S1 3) rfl Tryz.underlying24 rfl Tryz.sizeG ?_)
        | (go_at_call 9; refine (lknown_any S3).mono ?_; rintro e w5 ⟨rfl, S5⟩))
      go_ret
      exact ⟨rfl, S5.below⟩
    have d1 : decide ((60 : Int) < (mn : Int)) = false := decide_eq_false (by omega)
    have d1' : decide (60 < mn) = false := decide_eq_false hm60
    by_cases hh60 : 60 < hl
    · have d2 : decide ((60 : Int) < (hl : Int)) = true := decide_eq_true (by omega)
      have d2' : decide (60 < hl) = true := decide_eq_true hh60
      go_enter Tryz.func3, Tryz.ntmps3
      go_wp2_with (first
        | (go_at_call 7; refine (slow_any S1 a n c cap fuel).mono ?_; rw [hsl]; rintro e w2 ⟨rfl, S2⟩)
        | (go_at_call 8; refine (HC.out _ _ S2).mono ?_; rintro e w3 ⟨rfl, S3⟩)
        | (refine wpList_load_guard (by rfl) 24 _ rfl (n := 3) rfl (Sat.whole S2 3) rfl Tryz.underlying24 rfl Tryz.sizeG ?_)
        | (refine wpList_load_part rfl 24 _ rfl (n := 3) rfl (Sat.whole S1 3) rfl Tryz.underlying24 rfl Tryz.sizeG ?_)
        | (go_at_call 9; refine (lknown_any S3).mono ?_; rintro e w5 ⟨rfl, S5⟩))
      go_ret
      exact ⟨rfl, S5.below⟩
    have d2 : decide ((60 : Int) < (hl : Int)) = false := decide_eq_false (by omega)
    have d2' : decide (60 < hl) = false := decide_eq_false hh60
    have hm1 : bits .and .i64 me 1 = me % 2 := i64_mask me 1 1 (by decide) (by decide)
    obtain ⟨m2, hm2⟩ : ∃ m2, me % 2 = m2 := ⟨_, rfl⟩
    rw [hm2] at hm1
    have hseat : Seat m2 := by unfold Seat; omega
    have HNEW := Lib.hid (fun w' M (S : Sat w w' M) => rbNew_ok S (c := c) (fun w' h => HRD.out _ _ h) HN.out cap fuel seed m2 he0 hseat hsd)
    obtain ⟨J, hJ⟩ : ∃ J : SK, (⟨code, cap, fuel, seed, m2⟩ : SK) = J := ⟨_, rfl⟩
    have hJc : J.code = code ∧ J.cap = cap ∧ J.fuel = fuel ∧ J.seed = seed ∧ J.me = m2 := by rw [← hJ]; exact ⟨rfl, rfl, rfl, rfl, rfl⟩
    have HJ := Lib.hid hJc
    have HK := Lib.hid he0
    have HSE := Lib.hid hseat
    have HM2 := Lib.hid hm1
    rw [hJ] at HNEW
    clear hJ hJc he0 hseat hm2
    go_enter Tryz.func3, Tryz.ntmps3
    go_upto_region 8 with (first
      | (go_at_call 7; refine (slow_any S1 a n c cap fuel).mono ?_; rw [hsl]; rintro e w2 ⟨rfl, S2⟩)
      | (go_at_call 8; refine (HC.out _ _ S2).mono ?_; rintro e w3 ⟨rfl, S3⟩)
      | (go_at_call 10; refine (HNEW.out _ _ S3).mono ?_; rintro e w4 ⟨g, rfl, S4⟩)
      | (refine wpList_load_part rfl 24 _ rfl (n := 3) rfl (Sat.whole S3 3) rfl Tryz.underlying24 rfl Tryz.sizeG ?_)
      | (refine wpList_load_guard (by rfl) 24 _ rfl (n := 3) rfl (Sat.whole S2 3) rfl Tryz.underlying24 rfl Tryz.sizeG ?_)
      | (refine wpList_load_part rfl 24 _ rfl (n := 3) rfl (Sat.whole S1 3) rfl Tryz.underlying24 rfl Tryz.sizeG ?_))
    generalize w.heap.size = gp at S4 ⊢
    clear S0 S1 S2 S3 HNEW HC hsl d1 d1' d2 d2' hm1
    obtain ⟨i0, hi0, hz0, hz1, hz2⟩ := info_parts Tryz.infoI64
    obtain ⟨ip, hip, hp0, hp1, hp2⟩ := info_parts Tryz.infoP
    go_wp2_with fail
    go_loopw [16, 17] (fun lv iv wr => ∃ (k : Nat) (la : Option Addr) (lc : Nat) (left : List Int), k ≤ hl ∧ iv = .int .i64 k ∧ lv = .slice la k lc ∧ Hid (∀ x ∈ left, 0 ≤ x ∧ x < (hl : Int)) ∧ Sat w wr (lis la k lc left :: SS g J J.new 0 :: blk gp [.slice a n c, .int .i64 cap, .int .i64 fuel] 24 :: [])) (fun _ iv _ => hl - (intOf iv).toNat)
    case atStart => exact ⟨0, none, 0, [], by omega, rfl, rfl, fun x hx => by simp at hx, Sat.own_none.2 ⟨rfl, rfl, rfl, S4⟩⟩
    case round =>
      clear S4
      obtain ⟨k, la, lc, left, hk, rfl, rfl, HLF, S5⟩ := hrel
      have c1 : wr.cell? ⟨gp, 1, none⟩ = some (.int .i64 cap) := S5.cell 2 rfl 1
      go_upto_region 9 with fail
      go_cut [71] (fun v wx => ∃ b : Bool, v = .bool b ∧ Hid (b = true → k < hl) ∧ wx = wr)
      case first =>
        by_cases hlt : k < hl
        · have hd : decide ((k : Int) < (hl : Int)) = true := decide_eq_true (by omega)
          have hd' : decide (k < hl) = true := decide_eq_true hlt
          go_wp2_with fail
          go_meet
          exact ⟨_, rfl, fun _ => hlt, rfl⟩
        · have hd : decide ((k : Int) < (hl : Int)) = false := decide_eq_false (by omega)
          have hd' : decide (k < hl) = false := decide_eq_false hlt
          go_wp2_with fail
          go_meet
          exact ⟨_, rfl, fun h => by simp at h, rfl⟩
      case rest =>
        obtain ⟨b, rfl, HB, rfl⟩ := hcut
        clear c1
        cases b with
        | true =>
          have hlt := HB.out rfl
          have hw : IntKind.i64.wrap ((k : Int) + 1) = (k : Int) + 1 := by rw [IntKind.wrap_i64]; omega
          go_wp2_with (first
            | (at_builtin; refine wpList_append_sat rfl _ _ _ rfl 3 i0 _ 1 8 Tryz.underlying27 hi0 hz0 hz1 hz2 rfl (by decide) ((S5.alloc [.int .i64 k] 3).swap) rfl rfl (Rd.lit (heap_alloc_new _ _)) rfl (by simp [Value.oneCell']) (by unfold maxLen; omega) (by omega) ?_; intro ao' cap' w6 S6))
          refine ⟨⟨k + 1, ao', cap', left ++ [(k : Int)], by omega, by go_num, rfl, fun x hx => ?_, ?_⟩, by simp [intOf]; omega⟩
          · rcases List.mem_append.1 hx with h | h
            · exact HLF.out x h
            · rw [List.mem_singleton.1 h]; omega
          · unfold lis
            rw [nv_append]
            exact (S6.sel [1]).tail
        | false =>
          clear HB
          have hmk := fun w => mk_k w hl (by omega)
          go_upto_region 13 with fail
          have S6 := S5.alloc (kv (List.replicate hl false)) 4
          generalize World.alloc _ (Obj.cells (kv (List.replicate hl false)).toArray 4) = w6 at S6 ⊢
          generalize World.heap _ = hpp at S6 ⊢
          generalize hpp.size = tb at S6 ⊢
          obtain ⟨game, hgame⟩ : ∃ game : List Value, [.slice a n c, .int .i64 cap, .int .i64 fuel] = game := ⟨_, rfl⟩
          have HGA := Lib.hid hgame
          rw [hgame] at S6
          have S7 : Sat w w6 (SureM g gp tb game J J.new 0 la k lc left (List.replicate hl false)) := S6.sel [1, 1, 0, 0]
          clear S5 S6 hmk hgame
          go_wp2_with fail
          go_loopw [15, 16, 19] (fun dv lv iv wr => ∃ (i : Nat) (s : PS) (la : Option Addr) (ln lc : Nat) (left : List Int) (told : List Bool), i ≤ 300 ∧ iv = .int .i64 i ∧ dv = .int .i64 s.d ∧ lv = .slice la ln lc ∧ ln ≤ 60 ∧ Hid (SI J mine his told s ∧ told.length = hl ∧ ∀ x ∈ left, 0 ≤ x ∧ x < (hl : Int)) ∧ Sat w wr (SureM g gp tb game J s (2 * i) la ln lc left told)) (fun _ _ iv _ => 300 - (intOf iv).toNat)
          case atStart => exact ⟨0, J.new, la, k, lc, left, List.replicate hl false, by omega, rfl, rfl, rfl, by omega, ⟨SI.start hl, List.length_replicate .., HLF.out⟩, S7⟩
          case round =>
            clear S7 HLF
            obtain ⟨i, s, la, ln, lc, left, told, hi, rfl, rfl, rfl, hln60, HI, S8⟩ := hrel
            by_cases hlt : i < 300
            · have hd : decide ((i : Int) < 300) = true := decide_eq_true (by omega)
              have hd' : decide (i < 300) = true := decide_eq_true hlt
              go_upto_if 88 with fail
              clear hd hd'
              go_cut [20] (fun v wx => ∃ p : Int, v = .int .i64 p ∧ Sat w wx (SureM g gp tb game J s (2 * i) la ln lc left told))
              case first =>
                as_aux_lemma =>
                  by_cases hp : i < pn
                  · have hd : decide ((i : Int) < (pn : Int)) = true := decide_eq_true (by omega)
                    have hd' : decide (i < pn) = true := decide_eq_true hp
                    obtain ⟨pb, po, p, rfl, hpc⟩ := HP.out.at hp S8.below
                    have k0 : (0 : Int) ≤ (i : Int) := by omega
                    have k1 : (i : Int) < (pn : Int) := by omega
                    go_wp2_with fail
                    go_meet
                    exact ⟨p, rfl, S8⟩
                  · have hd : decide ((i : Int) < (pn : Int)) = false := decide_eq_false (by omega)
                    have hd' : decide (i < pn) = false := decide_eq_false hp
                    go_wp2_with fail
                    go_meet
                    exact ⟨0, rfl, S8⟩
              case rest =>
                obtain ⟨p, rfl, S9⟩ := hcut
                clear S8
                go_upto_region 19 with fail
                go_cut [101] (fun v wx => ∃ b : Bool, v = .bool b ∧ Hid (b = true → s.d < mn) ∧ Sat w wx (SureM g gp tb game J s (2 * i) la ln lc left told))
                case first =>
                  as_aux_lemma =>
                    cases hb : (bits .and .i64 p 1 == 0) with
                    | false =>
                      go_wp2_with fail
                      go_meet
                      exact ⟨_, rfl, fun h => by simp at h, S9⟩
                    | true =>
                      by_cases hdm : s.d < mn
                      · have hd : decide ((s.d : Int) < (mn : Int)) = true := decide_eq_true (by omega)
                        have hd' : decide (s.d < mn) = true := decide_eq_true hdm
                        go_wp2_with fail
                        go_meet
                        exact ⟨_, rfl, fun _ => hdm, S9⟩
                      · have hd : decide ((s.d : Int) < (mn : Int)) = false := decide_eq_false (by omega)
                        have hd' : decide (s.d < mn) = false := decide_eq_false hdm
                        go_wp2_with fail
                        go_meet
                        exact ⟨_, rfl, fun h => by simp at h, S9⟩
                case rest =>
                  obtain ⟨b, rfl, HB, S10⟩ := hcut
                  clear S9
                  go_upto_if 101 with fail
                  go_cut [15, 21, 22] (fun dv _ _ wx => ∃ s' : PS, dv = .int .i64 s'.d ∧ Hid (SI J mine his told s') ∧ Sat w wx (SureM g gp tb game J s' (2 * i + 1) la ln lc left told))
                  case first =>
                    as_aux_lemma =>
                      cases b with
                      | false =>
                        go_wp2_with fail
                        go_meet
                        exact ⟨s, rfl, HI.out.1, SureM_up S10 (by omega)⟩
                      | true =>
                        have hdm := HB.out rfl
                        obtain ⟨mb, mo, x, rfl, hx, hxb, hmc⟩ := HM.out.at hdm S10.below
                        have k0 : (0 : Int) ≤ (s.d : Int) := by omega
                        have k1 : (s.d : Int) < (mn : Int) := by omega
                        have S11 : Sat w _ (lis la ln lc left :: SS g J s (2 * i) :: blk tb (kv told) 4 :: blk gp game 24 :: []) := S10
                        have G := SS_good (S11.sel [1])
                        have HL := Lib.hid (sLoc_any (S11.sel [1]) (by omega) hxb)
                        unfold Loced at HL
                        rcases HI.out.1.loc G hx with ⟨e, he, hl2⟩ | ⟨s', hl2, hd2, hI⟩
                        · rw [hl2] at HL
                          have hee : (e == 0) = false := by simpa using he
                          clear hl2 G S11 hx hxb
                          go_wp2_with (first
                            | (go_at_call 11; refine HL.out.mono ?_; rintro e w12 ⟨rfl, S12⟩))
                          go_meet
                          exact ⟨s, rfl, HI.out.1, S12.sel [1, 0]⟩
                        · rw [hl2] at HL
                          have hdd : ((s.d : Int) != (s.d : Int)) = false := by simp
                          have hw : IntKind.i64.wrap ((s.d : Int) + 1) = (s'.d : Int) := by rw [IntKind.wrap_i64]; omega
                          have HI' := Lib.hid hI
                          clear hl2 G S11 hx hxb hI hd2
                          go_wp2_with (first
                            | (go_at_call 11; refine HL.out.mono ?_; rintro e w12 ⟨rfl, S12⟩))
                          go_meet
                          exact ⟨s', by go_num, HI'.out, S12.sel [1, 0]⟩
                  case rest =>
                    obtain ⟨s', rfl, HI2, S11⟩ := hcut
                    have HI3 : Hid (SI J mine his told s' ∧ told.length = hl ∧ ∀ x ∈ left, 0 ≤ x ∧ x < (hl : Int)) := ⟨HI2.out, HI.out.2⟩
                    clear S10 HB HI HI2
                    go_upto_region 25 with fail
                    go_cut [125] (fun v wx => ∃ b : Bool, v = .bool b ∧ Hid (b = true → 0 < ln) ∧ Sat w wx (SureM g gp tb game J s' (2 * i + 1) la ln lc left told))
                    case first =>
                      as_aux_lemma =>
                        cases hb : (bits .and .i64 p 2 == 0) with
                        | false =>
                          go_wp2_with fail
                          go_meet
                          exact ⟨_, rfl, fun h => by simp at h, S11⟩
                        | true =>
                          by_cases hl0 : 0 < ln
                          · have hd : decide ((0 : Int) < (ln : Int)) = true := decide_eq_true (by omega)
                            have hd' : decide (0 < ln) = true := decide_eq_true hl0
                            go_wp2_with fail
                            go_meet
                            exact ⟨_, rfl, fun _ => hl0, S11⟩
                          · have hd : decide ((0 : Int) < (ln : Int)) = false := decide_eq_false (by omega)
                            have hd' : decide (0 < ln) = false := decide_eq_false hl0
                            go_wp2_with fail
                            go_meet
                            exact ⟨_, rfl, fun h => by simp at h, S11⟩
                    case rest =>
                      obtain ⟨b, rfl, HB2, S12⟩ := hcut
                      clear S11
                      go_upto_if 125 with fail
                      go_cut [16, 23, 24] (fun lv _ _ wx => ∃ (s2 : PS) (la2 : Option Addr) (ln2 lc2 : Nat) (left2 : List Int) (told2 : List Bool), lv = .slice la2 ln2 lc2 ∧ ln2 ≤ 60 ∧ Hid (s2.d = s'.d) ∧ Hid (SI J mine his told2 s2 ∧ told2.length = hl ∧ ∀ x ∈ left2, 0 ≤ x ∧ x < (hl : Int)) ∧ Sat w wx (SureM g gp tb game J s2 (2 * i + 2) la2 ln2 lc2 left2 told2))
                      case first =>
                        as_aux_lemma =>
                          cases b with
                          | false =>
                            go_wp2_with fail
                            go_meet
                            exact ⟨s', la, ln, lc, left, told, rfl, hln60, rfl, HI3.out, SureM_up S12 (by omega)⟩
                          | true =>
                            have hl0 := HB2.out rfl
                            have S13 : Sat w _ (lis la ln lc left :: SS g J s' (2 * i + 1) :: blk tb (kv told) 4 :: blk gp game 24 :: []) := S12
                            have hll := lis_len S13
                            obtain ⟨kk, hrem, hkk⟩ : ∃ kk : Nat, (p / 4 % 4).tmod (ln : Int) = (kk : Int) ∧ kk < ln := by
                              have h1 : 0 ≤ p / 4 % 4 := by omega
                              have h2 := Int.tmod_nonneg (ln : Int) h1
                              have h3 := Int.tmod_lt_of_pos (p / 4 % 4) (show (0 : Int) < (ln : Int) by omega)
                              exact ⟨((p / 4 % 4).tmod (ln : Int)).toNat, by omega, by omega⟩
                            have hm3 : bits .and .i64 (p / 4) 3 = p / 4 % 4 := i64_mask (p / 4) 3 2 (by decide) (by decide)
                            have hln : ¬ (ln : Int) = 0 := by omega
                            obtain ⟨lb, lo, f0, rfl, hf, hlc⟩ := lis_at S13 hkk
                            have hfb := HI3.out.2.2 f0 (List.mem_of_getElem? hf)
                            obtain ⟨f, rfl⟩ : ∃ f : Nat, f0 = f := ⟨f0.toNat, by omega⟩
                            have hfh : f < hl := by omega
                            obtain ⟨hb, ho, y, rfl, hy, hyb, hyc⟩ := HH.out.at hfh S13.below
                            have G := SS_good (S13.sel [1])
                            have HREM := HI3.out.1.rem G hy (by rw [HI3.out.2.1]; exact hfh)
                            have HRM := Lib.hid (fun w' M (S : Sat w w' (SS g J s' (2 * i + 1) :: M)) => sRem_any S (by omega) f hyb)
                            unfold Remed at HRM
                            obtain ⟨A, hA⟩ : ∃ A, J.rem s' f y = A := ⟨_, rfl⟩
                            rw [hA] at HREM HRM
                            obtain ⟨A1, s2⟩ := A
                            have HREM2 : Hid ((A1 ≠ 0 ∧ s2 = s') ∨ (A1 = 0 ∧ s2.d = s'.d ∧ SI J mine his (told.set f true) s2)) := by
                              rcases HREM with ⟨e, he, h⟩ | ⟨s3, h, h2, h3⟩
                              · cases h; exact .inl ⟨he, rfl⟩
                              · cases h; exact .inr ⟨rfl, h2, h3⟩
                            have HLC := Lib.hid (fun (w' : World) (M : List Asn) (h : Sat w w' (lis (some ⟨lb, lo, none⟩) ln lc left :: M)) => ((h : Sat w w' (slc 3 1 (some ⟨lb, lo, none⟩) ln lc (nv left) :: M)).own_rd.at (j := kk) (by unfold nv; rw [List.getElem?_map, hf]; rfl) : w'.cell? ⟨lb, lo + kk, none⟩ = some (.int .i64 f)))
                            have HHC := Lib.hid (fun (w' : World) (h : Below w.heap.size w w') => ((HH.out.rd.below h).at (j := f) (by unfold uv; rw [List.getElem?_map, hy]; rfl) : w'.cell? ⟨hb, ho + f, none⟩ = some (.int .u16 y)))
                            have HLL := Lib.hid hll
                            have k0 : (0 : Int) ≤ (kk : Int) := by omega
                            have k1 : (kk : Int) < (ln : Int) := by omega
                            have f0' : (0 : Int) ≤ (f : Int) := by omega
                            have f1' : (f : Int) < (hl : Int) := by omega
                            dsimp only at HRM
                            clear hlc hyc HREM hA G hf hy hfb S12
                            go_upto_region 27 with fail
                            clear hrem hm3 hln
                            refine wp_region_drawn (N := 14) (LN := #[false, false, false, false, false, false, false, false, false, false, false, false, false, false]) (by kernel_rfl) (by kernel_rfl) (by kernel_rfl) ?_
                            have S14 := S13.drew
                            generalize World.drew _ = w14 at S14 ⊢
                            clear S13
                            have c1 := HLC.out _ _ S14
                            have c2 := HHC.out _ S14.below
                            refine wpAny_seg 0 12 2 14 #[true, true, true, true, true, true, true, true, true, true, true, true, false, false] (by kernel_rfl) (by kernel_rfl) ?_
                            simp only [List.take_succ_cons, List.take_zero, List.drop_succ_cons, List.drop_zero]
                            refine wpStill_step (fun K hK => ?_); go_simp; refine hK _ ?_; clear hK K
                            try simp only [Act.put, List.getElem_toArray, List.getElem_cons_zero, List.getElem_cons_succ, List.setIfInBounds_toArray, List.set_cons_zero, List.set_cons_succ]
                            refine wpStill_step (fun K hK => ?_); go_simp; refine hK _ ?_; clear hK K
                            try simp only [Act.put, List.getElem_toArray, List.getElem_cons_zero, List.getElem_cons_succ, List.setIfInBounds_toArray, List.set_cons_zero, List.set_cons_succ]
                            refine wpStill_step (fun K hK => ?_); go_simp; refine hK _ ?_; clear hK K
                            try simp only [Act.put, List.getElem_toArray, List.getElem_cons_zero, List.getElem_cons_succ, List.setIfInBounds_toArray, List.set_cons_zero, List.set_cons_succ]
                            refine wpStill_step (fun K hK => ?_); go_simp; refine hK _ ?_; clear hK K
                            try simp only [Act.put, List.getElem_toArray, List.getElem_cons_zero, List.getElem_cons_succ, List.setIfInBounds_toArray, List.set_cons_zero, List.set_cons_succ]
                            refine wpStill_step (fun K hK => ?_); go_simp; refine hK _ ?_; clear hK K
                            try simp only [Act.put, List.getElem_toArray, List.getElem_cons_zero, List.getElem_cons_succ, List.setIfInBounds_toArray, List.set_cons_zero, List.set_cons_succ]
                            refine wpStill_step (fun K hK => ?_); go_simp; refine hK _ ?_; clear hK K
                            try simp only [Act.put, List.getElem_toArray, List.getElem_cons_zero, List.getElem_cons_succ, List.setIfInBounds_toArray, List.set_cons_zero, List.set_cons_succ]
                            refine wpStill_step (fun K hK => ?_); go_simp; refine hK _ ?_; clear hK K
                            try simp only [Act.put, List.getElem_toArray, List.getElem_cons_zero, List.getElem_cons_succ, List.setIfInBounds_toArray, List.set_cons_zero, List.set_cons_succ]
                            refine wpStill_step (fun K hK => ?_); go_simp; refine hK _ ?_; clear hK K
                            try simp only [Act.put, List.getElem_toArray, List.getElem_cons_zero, List.getElem_cons_succ, List.setIfInBounds_toArray, List.set_cons_zero, List.set_cons_succ]
                            refine wpStill_step (fun K hK => ?_); go_simp; refine hK _ ?_; clear hK K
                            try simp only [Act.put, List.getElem_toArray, List.getElem_cons_zero, List.getElem_cons_succ, List.setIfInBounds_toArray, List.set_cons_zero, List.set_cons_succ]
                            refine wpStill_step (fun K hK => ?_); go_simp; refine hK _ ?_; clear hK K
                            try simp only [Act.put, List.getElem_toArray, List.getElem_cons_zero, List.getElem_cons_succ, List.setIfInBounds_toArray, List.set_cons_zero, List.set_cons_succ]
                            refine wpStill_step (fun K hK => ?_); go_simp; refine hK _ ?_; clear hK K
                            try simp only [Act.put, List.getElem_toArray, List.getElem_cons_zero, List.getElem_cons_succ, List.setIfInBounds_toArray, List.set_cons_zero, List.set_cons_succ]
                            refine wpStill_step (fun K hK => ?_); go_simp; refine hK _ ?_; clear hK K
                            try simp only [Act.put, List.getElem_toArray, List.getElem_cons_zero, List.getElem_cons_succ, List.setIfInBounds_toArray, List.set_cons_zero, List.set_cons_succ]
                            refine wpStill_nil ?_
                            refine wpAny_one (i := 12) (LN := #[true, true, true, true, true, true, true, true, true, true, true, true, true, false]) (by kernel_rfl) rfl (by kernel_rfl) ?_
                            intro K hK
                            go_simp
                            go_at_call 12
                            refine (HRM.out _ _ (S14.sel [1])).mono ?_
                            rintro e w15 ⟨rfl, S15⟩
                            go_wp2_with fail
                            refine hK.out _ _ ?_
                            clear hK K
                            try simp only [Act.put, List.getElem_toArray, List.getElem_cons_zero, List.getElem_cons_succ, List.setIfInBounds_toArray, List.set_cons_zero, List.set_cons_succ]
                            refine wpAny_loc (i := 13) (v := ?_) (LN := #[true, true, true, true, true, true, true, true, true, true, true, true, true, true]) rfl (by kernel_rfl) (by kernel_rfl) (by kernel_rfl) (fun _ _ _ h => h) (by kernel_rfl) (by rfl) ?_ ?_
                            rotate_left
                            · intro w; first | (go_simp; done) | (go_simp; with_reducible rfl)
                            try simp only [Act.put, List.getElem_toArray, List.getElem_cons_zero, List.getElem_cons_succ, List.setIfInBounds_toArray, List.set_cons_zero, List.set_cons_succ]
                            refine ⟨by kernel_rfl, ?_⟩
                            try simp only [Act.put, List.getElem_toArray, List.getElem_cons_zero, List.getElem_cons_succ, List.setIfInBounds_toArray, List.set_cons_zero, List.set_cons_succ]
                            clear c1 c2 S14
                            have S16 : Sat w w15 (lis (some ⟨lb, lo, none⟩) ln lc left :: SS g J s2 (2 * i + 2) :: blk tb (kv told) 4 :: blk gp game 24 :: []) := S15.sel [1, 0]
                            clear S15 HRM
                            by_cases hA0 : A1 = 0
                            · have hA1 : (A1 == 0) = true := by simpa using hA0
                              have HI4 : Hid (s2.d = s'.d ∧ SI J mine his (told.set f true) s2) := by
                                rcases HREM2.out with h | h
                                · exact absurd hA0 h.1
                                · exact h.2
                              have c1 := HLC.out _ _ S16
                              obtain ⟨tv, htv⟩ : ∃ tv, told[f]? = some tv := ⟨told[f]'(by rw [HI3.out.2.1]; exact hfh), List.getElem?_eq_getElem _⟩
                              have c3 : w15.cell? ⟨tb, f, none⟩ = some (.bool tv) := (S16.cell 2 rfl f).trans (kv_at htv)
                              have z3 := S16.frozen 2 rfl f
                              clear hA0 htv HREM2
                              go_upto_region 30 with fail
                              clear c1 c3 z3 hA1
                              have S17 := S16.setCell (k := f) (v := .bool true) 2 rfl
                              generalize World.setCell w15 _ _ = w17 at S17 ⊢
                              have S18 : Sat w w17 (lis (some ⟨lb, lo, none⟩) ln lc left :: SS g J s2 (2 * i + 2) :: blk tb (kv (told.set f true)) 4 :: blk gp game 24 :: []) := by
                                rw [← kv_set]; exact S17
                              clear S16 S17
                              have s1 : IntKind.i64.wrap ((kk : Int) + 1) = (kk : Int) + 1 := by rw [IntKind.wrap_i64]; omega
                              have s2' : 0 ≤ (kk : Int) + 1 := by omega
                              have s3 : ((kk : Int) + 1).toNat = kk + 1 := by omega
                              have s4 : (kk : Int) + 1 ≤ (ln : Int) := by omega
                              have s5 : (kk : Int) ≤ (lc : Int) := by have := HLL.out.2.1; omega
                              have SA : Sat w (w17.alloc (.cells #[] 3)) (slc 3 1 (some ⟨w17.heap.size, 0, none⟩) 0 0 [] :: lis (some ⟨lb, lo, none⟩) ln lc left :: SS g J s2 (2 * i + 2) :: blk tb (kv (told.set f true)) 4 :: blk gp game 24 :: []) :=
                                Sat.own_new (post := []) (S18.alloc [] 3) rfl (Nat.le_refl _) (by unfold maxLen; omega) (by simp)
                              have hT1 : Rd (w17.alloc (.cells #[] 3)).drew (some ⟨lb, lo, none⟩) (nv (left.take kk)) := by
                                rw [nv_take]
                                exact ((SA.drew.sel [1] : Sat w _ (slc 3 1 (some ⟨lb, lo, none⟩) ln lc (nv left) :: _)).own_rd).take kk
                              have hT2 : ∀ w' L, Sat w w' (lis (some ⟨lb, lo, none⟩) ln lc left :: L) → Rd w' (if lc = kk + 1 then some ⟨lb, lo, none⟩ else some ⟨lb, lo + (kk + 1), none⟩) (nv (left.drop (kk + 1))) := by
                                intro w' L h
                                split
                                · rw [List.drop_of_length_le (by have := HLL.out; omega)]
                                  exact Rd.nil _ _
                                · rw [nv_drop]
                                  exact ((h : Sat w w' (slc 3 1 (some ⟨lb, lo, none⟩) ln lc (nv left) :: L)).own_rd).drop (kk + 1)
                              have hll1 := HLL.out.1
                              go_wp2_with fail
                              go_region_law (first
                                | (refine step_append_sat rfl (.tmp 153) (.tmp 156) _ rfl 3 i0 (.int .i64 0) 1 8 Tryz.underlying27 hi0 hz0 hz1 hz2 rfl (by decide) SA.drew rfl rfl hT1 (by rw [nv_length, List.length_take, Nat.min_eq_left (by omega), Nat.mul_one]) (nv_one _) (by unfold maxLen; omega) (by omega) ?_; intro ao1 cap1 w19 S19; simp only [Nat.zero_add, List.nil_append] at S19 ⊢)
                                | (refine step_append_sat rfl (.tmp 157) (.tmp 161) _ rfl 3 i0 (.int .i64 0) 1 8 Tryz.underlying27 hi0 hz0 hz1 hz2 rfl (by decide) S19 rfl rfl (hT2 _ _ (S19.sel [1])) (by rw [nv_length, List.length_drop, Nat.mul_one, hll1]) (nv_one _) (by unfold maxLen; omega) (by omega) ?_; intro ao2 cap2 w20 S20))
                              go_wp2
                              all_goals
                                go_meet
                                have S21 : Sat w w20 (SureM g gp tb game J s2 (2 * i + 2) ao2 (kk + (ln - (kk + 1))) cap2 (left.take kk ++ left.drop (kk + 1)) (told.set f true)) := by
                                  unfold SureM lis
                                  rw [nv_append]
                                  exact (S20.sel [1]).tail
                                refine ⟨s2, ao2, _, cap2, _, told.set f true, rfl, by omega, HI4.out.1, ⟨HI4.out.2, by rw [List.length_set]; exact HI3.out.2.1, fun x hx => ?_⟩, S21⟩
                                rcases List.mem_append.1 hx with h | h
                                · exact HI3.out.2.2 x (List.mem_of_mem_take h)
                                · exact HI3.out.2.2 x (List.mem_of_mem_drop h)
                            · have hA1 : (A1 == 0) = false := by simpa using hA0
                              have hs2 : Hid (s2 = s') := by
                                rcases HREM2.out with h | h
                                · exact h.2
                                · exact absurd h.1 hA0
                              clear hA0 HREM2
                              go_wp2_with fail
                              go_meet
                              exact ⟨s2, _, ln, lc, left, told, rfl, hln60, by show _ = _; rw [hs2.out], by show _ ∧ _; rw [hs2.out]; exact HI3.out, S16⟩
                      case rest =>
                        obtain ⟨s2, la2, ln2, lc2, left2, told2, rfl, hln2, HD2, HI5, S13⟩ := hcut
                        clear S12 HB2 HI3 hln60
                        generalize s'.d = dN at HD2 ⊢
                        obtain ⟨T, hT⟩ : ∃ T, min dN (lead told2) = T := ⟨_, rfl⟩
                        have HT := Lib.hid hT
                        have hG := SS_good ((S13 : Sat w _ (lis la2 ln2 lc2 left2 :: SS g J s2 (2 * i + 2) :: blk tb (kv told2) 4 :: blk gp game 24 :: [])).sel [1])
                        have hsu := HI5.out.1.sure hG
                        rw [HD2.out, hT] at hsu
                        have HPL : Hid (playP code cap fuel seed (allP m2 mine his T) = (J.sure s2, 0)) := by
                          show _ = _
                          rw [play_stL HK.out, hsu, HJ.out.1, HJ.out.2.1, HJ.out.2.2.1, HJ.out.2.2.2.1, HJ.out.2.2.2.2]
                        have hok := (stA_goes hG.hk hG.hs (rbq_qb hG.qr) (sureN s2.q s2.d)).1.ok
                        obtain ⟨N, hN⟩ : ∃ N, J.sure s2 = N := ⟨_, rfl⟩
                        change (J.sure s2).Ok at hok
                        rw [hN] at HPL hok
                        have HNS := Lib.hid hN
                        have HNL := Lib.hid (svals_length hok.len)
                        have HEQ := Lib.hid (fun w' => (run_neq_state (s := N) (t := N) w' hok.len hok.len).trans (by rw [decide_eq_true rfl]))
                        have HPB : Hid (U16s (allP m2 mine his T)) := by
                          intro x hx
                          obtain ⟨k, _, rfl⟩ := List.mem_map.1 hx
                          have h1 : 0 ≤ mine[k]?.getD 0 ∧ mine[k]?.getD 0 < 65536 := by
                            cases e : mine[k]? with
                            | none => simp
                            | some v => exact HM.out.bd v (List.mem_of_getElem? e)
                          have h2 : 0 ≤ his[k]?.getD 0 ∧ his[k]?.getD 0 < 65536 := by
                            cases e : his[k]? with
                            | none => simp
                            | some v => exact HH.out.bd v (List.mem_of_getElem? e)
                          split
                          · exact ⟨h1, h2⟩
                          · exact ⟨h2, h1⟩
                        have hT60 : T ≤ 60 := by
                          have h1 := HI5.out.1.dm
                          rw [HD2.out] at h1
                          have h2 := HM.out.len
                          omega
                        clear hT hG hsu hok hN
                        go_wp2_with fail
                        go_loopw [25, 26] (fun lv iv wr => ∃ (k : Nat) (ao : Option Addr) (ac : Nat), k ≤ T ∧ iv = .int .i64 k ∧ lv = .slice ao k ac ∧ Sat w wr (sps ao k ac (allP m2 mine his k) :: SureM g gp tb game J s2 (2 * i + 2) la2 ln2 lc2 left2 told2)) (fun _ iv _ => T - (intOf iv).toNat)
                        case atStart => exact ⟨0, none, 0, by omega, rfl, rfl, Sat.own_none.2 ⟨rfl, rfl, rfl, S13⟩⟩
                        case round =>
                          as_aux_lemma =>
                            clear S13
                            obtain ⟨k, ao, ac, hkT, rfl, rfl, S14⟩ := hrel
                            go_upto_region 33 with fail
                            go_cut [177] (fun v wx => ∃ b : Bool, v = .bool b ∧ Hid (b = decide (k < T)) ∧ Sat w wx (sps ao k ac (allP m2 mine his k) :: SureM g gp tb game J s2 (2 * i + 2) la2 ln2 lc2 left2 told2))
                            case first =>
                              by_cases h1 : k < dN
                              · have hd1 : decide ((k : Int) < (dN : Int)) = true := decide_eq_true (by omega)
                                have hd1' : decide (k < dN) = true := decide_eq_true h1
                                by_cases h2 : k < hl
                                · have hd2 : decide ((k : Int) < (hl : Int)) = true := decide_eq_true (by omega)
                                  have hd2' : decide (k < hl) = true := decide_eq_true h2
                                  obtain ⟨tv, htv⟩ : ∃ tv, told2[k]? = some tv := ⟨told2[k]'(by rw [HI5.out.2.1]; exact h2), List.getElem?_eq_getElem _⟩
                                  have S15 : Sat w _ (sps ao k ac (allP m2 mine his k) :: lis la2 ln2 lc2 left2 :: SS g J s2 (2 * i + 2) :: blk tb (kv told2) 4 :: blk gp game 24 :: []) := S14
                                  have c3 := (S15.cell 3 rfl k).trans (kv_at htv)
                                  have k0 : (0 : Int) ≤ (k : Int) := by omega
                                  have k1 : (k : Int) < (hl : Int) := by omega
                                  have HTV := Lib.hid htv
                                  clear htv S15
                                  go_wp2_with fail
                                  go_meet
                                  refine ⟨tv, rfl, ?_, S14⟩
                                  show tv = _
                                  have hTT := HT.out
                                  by_cases hkl : k < lead told2
                                  · have := lead_lt hkl
                                    rw [HTV.out] at this
                                    cases this
                                    exact (decide_eq_true (by omega)).symm
                                  · have e : k = lead told2 := by omega
                                    have h3 := @lead_at told2
                                    rw [← e, HTV.out] at h3
                                    rw [decide_eq_false (by omega)]
                                    cases tv with
                                    | false => rfl
                                    | true => exact absurd rfl h3
                                · have hd2 : decide ((k : Int) < (hl : Int)) = false := decide_eq_false (by omega)
                                  have hd2' : decide (k < hl) = false := decide_eq_false h2
                                  go_wp2_with fail
                                  go_meet
                                  refine ⟨_, rfl, ?_, S14⟩
                                  show false = _
                                  have hTT := HT.out
                                  have h3 := lead_le told2
                                  have h4 := HI5.out.2.1
                                  exact (decide_eq_false (by omega)).symm
                              · have hd1 : decide ((k : Int) < (dN : Int)) = false := decide_eq_false (by omega)
                                have hd1' : decide (k < dN) = false := decide_eq_false h1
                                go_wp2_with fail
                                go_meet
                                refine ⟨_, rfl, ?_, S14⟩
                                show false = _
                                have hTT := HT.out
                                exact (decide_eq_false (by omega)).symm
                            case rest =>
                              obtain ⟨b, rfl, HB, S15⟩ := hcut
                              clear S14
                              by_cases hkT2 : k < T
                              · have hb := HB.out
                                rw [decide_eq_true hkT2] at hb
                                subst hb
                                have hkm : k < mn := by
                                  have h1 := HI5.out.1.dm
                                  rw [HD2.out] at h1
                                  have h2 := HM.out.len
                                  have h3 := HT.out
                                  omega
                                have hkh : k < hl := by
                                  have h1 := lead_le told2
                                  have h2 := HI5.out.2.1
                                  have h3 := HT.out
                                  omega
                                obtain ⟨mb, mo, x, rfl, hx, hxb, hmc⟩ := HM.out.at hkm S15.below
                                obtain ⟨hb, ho, y, rfl, hy, hyb, hyc⟩ := HH.out.at hkh S15.below
                                have HMC := Lib.hid (fun (w' : World) (h : Below w.heap.size w w') => ((HM.out.rd.below h).at (j := k) (by unfold uv; rw [List.getElem?_map, hx]; rfl) : w'.cell? ⟨mb, mo + k, none⟩ = some (.int .u16 x)))
                                have HHC := Lib.hid (fun (w' : World) (h : Below w.heap.size w w') => ((HH.out.rd.below h).at (j := k) (by unfold uv; rw [List.getElem?_map, hy]; rfl) : w'.cell? ⟨hb, ho + k, none⟩ = some (.int .u16 y)))
                                have HXY : Hid (mine[k]?.getD 0 = x ∧ his[k]?.getD 0 = y) := ⟨by rw [hx]; rfl, by rw [hy]; rfl⟩
                                have k0 : (0 : Int) ≤ (k : Int) := by omega
                                have k1 : (k : Int) < (mn : Int) := by omega
                                have k2 : (k : Int) < (hl : Int) := by omega
                                have hw : IntKind.i64.wrap ((k : Int) + 1) = (k : Int) + 1 := by rw [IntKind.wrap_i64]; omega
                                clear hmc hyc hx hy hxb hyb HB
                                go_upto_region 35 with fail
                                refine wp_region_drawn (N := 11) (LN := #[false, false, false, false, false, false, false, false, false, false, false]) (by kernel_rfl) (by kernel_rfl) (by kernel_rfl) ?_
                                have S16 := S15.drew
                                generalize World.drew _ = w16 at S16 ⊢
                                clear S15
                                refine wpAny_held (fun w' => w'.cell? ⟨mb, mo + k, none⟩ = some (.int .u16 x) ∧ w'.cell? ⟨hb, ho + k, none⟩ = some (.int .u16 y)) ⟨HMC.out _ S16.below, HHC.out _ S16.below⟩ (fun hHeld => ?_)
                                refine wpAnyH_tk (i := 0) (v := ?_) (LN := #[true, false, false, false, false, false, false, false, false, false, false]) rfl (by kernel_rfl) (by kernel_rfl) (by kernel_rfl) (fun _ _ _ h => h) (by kernel_rfl) (by rfl) (by assumption) ?_ ?_
                                rotate_left
                                · intro w hSw; (try dsimp only at hSw); first | (go_simp; done) | (go_simp; with_reducible rfl)
                                try simp only [Act.put, List.getElem_toArray, List.getElem_cons_zero, List.getElem_cons_succ, List.setIfInBounds_toArray, List.set_cons_zero, List.set_cons_succ]
                                refine wpAnyH_tk (i := 1) (v := ?_) (LN := #[true, true, false, false, false, false, false, false, false, false, false]) rfl (by kernel_rfl) (by kernel_rfl) (by kernel_rfl) (fun _ _ _ h => h) (by kernel_rfl) (by rfl) (by assumption) ?_ ?_
                                rotate_left
                                · intro w hSw; (try dsimp only at hSw); first | (go_simp; done) | (go_simp; with_reducible rfl)
                                try simp only [Act.put, List.getElem_toArray, List.getElem_cons_zero, List.getElem_cons_succ, List.setIfInBounds_toArray, List.set_cons_zero, List.set_cons_succ]
                                refine wpAnyH_tk (i := 2) (v := ?_) (LN := #[true, true, true, false, false, false, false, false, false, false, false]) rfl (by kernel_rfl) (by kernel_rfl) (by kernel_rfl) (fun _ _ _ h => h) (by kernel_rfl) (by rfl) (by assumption) ?_ ?_
                                rotate_left
                                · intro w hSw; (try dsimp only at hSw); first | (go_simp; done) | (go_simp; with_reducible rfl)
                                try simp only [Act.put, List.getElem_toArray, List.getElem_cons_zero, List.getElem_cons_succ, List.setIfInBounds_toArray, List.set_cons_zero, List.set_cons_succ]
                                refine wpAnyH_tk (i := 3) (v := ?_) (LN := #[true, true, true, true, false, false, false, false, false, false, false]) rfl (by kernel_rfl) (by kernel_rfl) (by kernel_rfl) (fun _ _ _ h => h) (by kernel_rfl) (by rfl) (by assumption) ?_ ?_
                                rotate_left
                                · intro w hSw; (try dsimp only at hSw); first | (go_simp; done) | (go_simp; with_reducible rfl)
                                try simp only [Act.put, List.getElem_toArray, List.getElem_cons_zero, List.getElem_cons_succ, List.setIfInBounds_toArray, List.set_cons_zero, List.set_cons_succ]
                                refine wpAnyH_tk (i := 4) (v := ?_) (LN := #[true, true, true, true, true, false, false, false, false, false, false]) rfl (by kernel_rfl) (by kernel_rfl) (by kernel_rfl) (fun _ _ _ h => h) (by kernel_rfl) (by rfl) (by assumption) ?_ ?_
                                rotate_left
                                · intro w hSw; (try dsimp only at hSw); first | (go_simp; done) | (go_simp; with_reducible rfl)
                                try simp only [Act.put, List.getElem_toArray, List.getElem_cons_zero, List.getElem_cons_succ, List.setIfInBounds_toArray, List.set_cons_zero, List.set_cons_succ]
                                refine wpAnyH_tk (i := 5) (v := ?_) (LN := #[true, true, true, true, true, true, false, false, false, false, false]) rfl (by kernel_rfl) (by kernel_rfl) (by kernel_rfl) (fun _ _ _ h => h) (by kernel_rfl) (by rfl) (by assumption) ?_ ?_
                                rotate_left
                                · intro w hSw; (try dsimp only at hSw); first | (go_simp; done) | (go_simp; with_reducible rfl)
                                try simp only [Act.put, List.getElem_toArray, List.getElem_cons_zero, List.getElem_cons_succ, List.setIfInBounds_toArray, List.set_cons_zero, List.set_cons_succ]
                                refine wpAnyH_tk (i := 6) (v := ?_) (LN := #[true, true, true, true, true, true, true, false, false, false, false]) rfl (by kernel_rfl) (by kernel_rfl) (by kernel_rfl) (fun _ _ _ h => h) (by kernel_rfl) (by rfl) (by assumption) ?_ ?_
                                rotate_left
                                · intro w hSw; (try dsimp only at hSw); first | (go_simp; done) | (go_simp; with_reducible rfl)
                                try simp only [Act.put, List.getElem_toArray, List.getElem_cons_zero, List.getElem_cons_succ, List.setIfInBounds_toArray, List.set_cons_zero, List.set_cons_succ]
                                refine wpAnyH_tk (i := 7) (v := ?_) (LN := #[true, true, true, true, true, true, true, true, false, false, false]) rfl (by kernel_rfl) (by kernel_rfl) (by kernel_rfl) (fun _ _ _ h => h) (by kernel_rfl) (by rfl) (by assumption) ?_ ?_
                                rotate_left
                                · intro w hSw; (try dsimp only at hSw); first | (go_simp; done) | (go_simp; with_reducible rfl)
                                try simp only [Act.put, List.getElem_toArray, List.getElem_cons_zero, List.getElem_cons_succ, List.setIfInBounds_toArray, List.set_cons_zero, List.set_cons_succ]
                                refine wpAnyH_tk (i := 8) (v := ?_) (LN := #[true, true, true, true, true, true, true, true, true, false, false]) rfl (by kernel_rfl) (by kernel_rfl) (by kernel_rfl) (fun _ _ _ h => h) (by kernel_rfl) (by rfl) (by assumption) ?_ ?_
                                rotate_left
                                · intro w hSw; (try dsimp only at hSw); first | (go_simp; done) | (go_simp; with_reducible rfl)
                                try simp only [Act.put, List.getElem_toArray, List.getElem_cons_zero, List.getElem_cons_succ, List.setIfInBounds_toArray, List.set_cons_zero, List.set_cons_succ]
                                refine wpAnyH_one (i := 9) (LN := #[true, true, true, true, true, true, true, true, true, true, false]) (by kernel_rfl) rfl (by kernel_rfl) ?_
                                intro K hK
                                go_simp
                                have S17 := S16.alloc [.int .u16 0, .int .u16 0] 43
                                refine hK.out _ _ ⟨HMC.out _ S17.below, HHC.out _ S17.below⟩ ?_
                                clear hK K hHeld
                                intro hHeld
                                try simp only [Act.put, List.getElem_toArray, List.getElem_cons_zero, List.getElem_cons_succ, List.setIfInBounds_toArray, List.set_cons_zero, List.set_cons_succ]
                                refine wpAnyH_one (i := 10) (LN := #[true, true, true, true, true, true, true, true, true, true, true]) (by kernel_rfl) rfl (by kernel_rfl) ?_
                                intro K hK
                                refine step_store_sat (off := 0) (n := 2) rfl 43 _ _ rfl S17 rfl rfl rfl (by simp) Tryz.sizePr (by simp [Value.oneCell']) ?_
                                intro w18 S18
                                refine hK.out _ _ ⟨HMC.out _ S18.below, HHC.out _ S18.below⟩ ?_
                                clear hK K hHeld
                                intro hHeld
                                try simp only [Act.put, List.getElem_toArray, List.getElem_cons_zero, List.getElem_cons_succ, List.setIfInBounds_toArray, List.set_cons_zero, List.set_cons_succ]
                                refine ⟨by kernel_rfl, ?_⟩
                                try simp only [Act.put, List.getElem_toArray, List.getElem_cons_zero, List.getElem_cons_succ, List.setIfInBounds_toArray, List.set_cons_zero, List.set_cons_succ]
                                clear hHeld
                                have S19 : Sat w w18 (blk w16.heap.size [.int .u16 x, .int .u16 y] 43 :: sps ao k ac (allP m2 mine his k) :: SureM g gp tb game J s2 (2 * i + 2) la2 ln2 lc2 left2 told2) := S18
                                generalize w16.heap.size = pb at S19 ⊢
                                clear S16 S17 S18
                                have hm1 := HM2.out
                                by_cases hm21 : m2 = 1
                                · have hq : (m2 == 1) = true := by simpa using hm21
                                  have HM21 := Lib.hid hm21
                                  clear hm21
                                  go_upto_region 37 with fail
                                  refine wp_region_drawn (N := 10) (LN := #[false, false, false, false, false, false, false, false, false, false]) (by kernel_rfl) (by kernel_rfl) (by kernel_rfl) ?_
                                  have S20 := S19.drew
                                  generalize World.drew _ = w20 at S20 ⊢
                                  clear S19
                                  refine wpAny_held (fun w' => w'.cell? ⟨mb, mo + k, none⟩ = some (.int .u16 x) ∧ w'.cell? ⟨hb, ho + k, none⟩ = some (.int .u16 y)) ⟨HMC.out _ S20.below, HHC.out _ S20.below⟩ (fun hHeld => ?_)
                                  refine wpAnyH_tk (i := 0) (v := ?_) (LN := #[true, false, false, false, false, false, false, false, false, false]) rfl (by kernel_rfl) (by kernel_rfl) (by kernel_rfl) (fun _ _ _ h => h) (by kernel_rfl) (by rfl) (by assumption) ?_ ?_
                                  rotate_left
                                  · intro w hSw; (try dsimp only at hSw); first | (go_simp; done) | (go_simp; with_reducible rfl)
                                  try simp only [Act.put, List.getElem_toArray, List.getElem_cons_zero, List.getElem_cons_succ, List.setIfInBounds_toArray, List.set_cons_zero, List.set_cons_succ]
                                  refine wpAnyH_tk (i := 1) (v := ?_) (LN := #[true, true, false, false, false, false, false, false, false, false]) rfl (by kernel_rfl) (by kernel_rfl) (by kernel_rfl) (fun _ _ _ h => h) (by kernel_rfl) (by rfl) (by assumption) ?_ ?_
                                  rotate_left
                                  · intro w hSw; (try dsimp only at hSw); first | (go_simp; done) | (go_simp; with_reducible rfl)
                                  try simp only [Act.put, List.getElem_toArray, List.getElem_cons_zero, List.getElem_cons_succ, List.setIfInBounds_toArray, List.set_cons_zero, List.set_cons_succ]
                                  refine wpAnyH_tk (i := 2) (v := ?_) (LN := #[true, true, true, false, false, false, false, false, false, false]) rfl (by kernel_rfl) (by kernel_rfl) (by kernel_rfl) (fun _ _ _ h => h) (by kernel_rfl) (by rfl) (by assumption) ?_ ?_
                                  rotate_left
                                  · intro w hSw; (try dsimp only at hSw); first | (go_simp; done) | (go_simp; with_reducible rfl)
                                  try simp only [Act.put, List.getElem_toArray, List.getElem_cons_zero, List.getElem_cons_succ, List.setIfInBounds_toArray, List.set_cons_zero, List.set_cons_succ]
                                  refine wpAnyH_tk (i := 3) (v := ?_) (LN := #[true, true, true, true, false, false, false, false, false, false]) rfl (by kernel_rfl) (by kernel_rfl) (by kernel_rfl) (fun _ _ _ h => h) (by kernel_rfl) (by rfl) (by assumption) ?_ ?_
                                  rotate_left
                                  · intro w hSw; (try dsimp only at hSw); first | (go_simp; done) | (go_simp; with_reducible rfl)
                                  try simp only [Act.put, List.getElem_toArray, List.getElem_cons_zero, List.getElem_cons_succ, List.setIfInBounds_toArray, List.set_cons_zero, List.set_cons_succ]
                                  refine wpAnyH_tk (i := 4) (v := ?_) (LN := #[true, true, true, true, true, false, false, false, false, false]) rfl (by kernel_rfl) (by kernel_rfl) (by kernel_rfl) (fun _ _ _ h => h) (by kernel_rfl) (by rfl) (by assumption) ?_ ?_
                                  rotate_left
                                  · intro w hSw; (try dsimp only at hSw); first | (go_simp; done) | (go_simp; with_reducible rfl)
                                  try simp only [Act.put, List.getElem_toArray, List.getElem_cons_zero, List.getElem_cons_succ, List.setIfInBounds_toArray, List.set_cons_zero, List.set_cons_succ]
                                  refine wpAnyH_tk (i := 5) (v := ?_) (LN := #[true, true, true, true, true, true, false, false, false, false]) rfl (by kernel_rfl) (by kernel_rfl) (by kernel_rfl) (fun _ _ _ h => h) (by kernel_rfl) (by rfl) (by assumption) ?_ ?_
                                  rotate_left
                                  · intro w hSw; (try dsimp only at hSw); first | (go_simp; done) | (go_simp; with_reducible rfl)
                                  try simp only [Act.put, List.getElem_toArray, List.getElem_cons_zero, List.getElem_cons_succ, List.setIfInBounds_toArray, List.set_cons_zero, List.set_cons_succ]
                                  refine wpAnyH_tk (i := 6) (v := ?_) (LN := #[true, true, true, true, true, true, true, false, false, false]) rfl (by kernel_rfl) (by kernel_rfl) (by kernel_rfl) (fun _ _ _ h => h) (by kernel_rfl) (by rfl) (by assumption) ?_ ?_
                                  rotate_left
                                  · intro w hSw; (try dsimp only at hSw); first | (go_simp; done) | (go_simp; with_reducible rfl)
                                  try simp only [Act.put, List.getElem_toArray, List.getElem_cons_zero, List.getElem_cons_succ, List.setIfInBounds_toArray, List.set_cons_zero, List.set_cons_succ]
                                  refine wpAnyH_tk (i := 7) (v := ?_) (LN := #[true, true, true, true, true, true, true, true, false, false]) rfl (by kernel_rfl) (by kernel_rfl) (by kernel_rfl) (fun _ _ _ h => h) (by kernel_rfl) (by rfl) (by assumption) ?_ ?_
                                  rotate_left
                                  · intro w hSw; (try dsimp only at hSw); first | (go_simp; done) | (go_simp; with_reducible rfl)
                                  try simp only [Act.put, List.getElem_toArray, List.getElem_cons_zero, List.getElem_cons_succ, List.setIfInBounds_toArray, List.set_cons_zero, List.set_cons_succ]
                                  refine wpAnyH_tk (i := 8) (v := ?_) (LN := #[true, true, true, true, true, true, true, true, true, false]) rfl (by kernel_rfl) (by kernel_rfl) (by kernel_rfl) (fun _ _ _ h => h) (by kernel_rfl) (by rfl) (by assumption) ?_ ?_
                                  rotate_left
                                  · intro w hSw; (try dsimp only at hSw); first | (go_simp; done) | (go_simp; with_reducible rfl)
                                  try simp only [Act.put, List.getElem_toArray, List.getElem_cons_zero, List.getElem_cons_succ, List.setIfInBounds_toArray, List.set_cons_zero, List.set_cons_succ]
                                  refine wpAnyH_one (i := 9) (LN := #[true, true, true, true, true, true, true, true, true, true]) (by kernel_rfl) rfl (by kernel_rfl) ?_
                                  intro K hK
                                  refine step_store_sat (off := 0) (n := 2) rfl 43 _ _ rfl S20 rfl rfl rfl (by simp) Tryz.sizePr (by simp [Value.oneCell']) ?_
                                  intro w21 S21
                                  refine hK.out _ _ ⟨HMC.out _ S21.below, HHC.out _ S21.below⟩ ?_
                                  clear hK K hHeld
                                  intro hHeld
                                  try simp only [Act.put, List.getElem_toArray, List.getElem_cons_zero, List.getElem_cons_succ, List.setIfInBounds_toArray, List.set_cons_zero, List.set_cons_succ]
                                  refine ⟨by kernel_rfl, ?_⟩
                                  try simp only [Act.put, List.getElem_toArray, List.getElem_cons_zero, List.getElem_cons_succ, List.setIfInBounds_toArray, List.set_cons_zero, List.set_cons_succ]
                                  clear hHeld hq hm1
                                  have S22 : Sat w w21 (blk pb [.int .u16 y, .int .u16 x] 43 :: sps ao k ac (allP m2 mine his k) :: SureM g gp tb game J s2 (2 * i + 2) la2 ln2 lc2 left2 told2) := S21
                                  clear S20 S21
                                  go_wp2_with (first
                                    | (refine wpList_load_part rfl 43 _ rfl (n := 2) rfl (Sat.whole S22 2) rfl Tryz.underlying43 rfl Tryz.sizePr ?_)
                                    | (at_builtin; refine wpList_append_sat rfl _ _ _ rfl 43 ip _ 2 4 Tryz.underlying41 hip hp0 hp1 hp2 rfl (by decide) ((S22.alloc [.int .u16 y, .int .u16 x] 43).sel [2]) rfl rfl (Rd.lit (heap_alloc_new _ _)) rfl (by simp [Value.oneCell']) (by unfold maxLen; omega) (by omega) ?_; intro ao' cap' w23 S23))
                                  go_roundw
                                  case measure => simp [intOf]; omega
                                  case rel =>
                                    refine ⟨k + 1, ao', cap', by omega, by go_num, rfl, ?_⟩
                                    have e2 : pv (allP m2 mine his (k + 1)) = pv (allP m2 mine his k) ++ [.int .u16 y, .int .u16 x] := by
                                      rw [allP_succ, if_neg (by rw [HM21.out]; decide), pv_append, HXY.out.1, HXY.out.2]; rfl
                                    unfold sps
                                    rw [e2]
                                    exact ((S23.sel [1]).tail.sel [1]).tail
                                · have hq : (m2 == 1) = false := by simpa using hm21
                                  have HM20 : Hid (m2 = 0) := by rcases HSE.out with h | h; exact h; exact absurd h hm21
                                  clear hm21
                                  go_wp2_with (first
                                    | (refine wpList_load_part rfl 43 _ rfl (n := 2) rfl (Sat.whole S19 2) rfl Tryz.underlying43 rfl Tryz.sizePr ?_)
                                    | (at_builtin; refine wpList_append_sat rfl _ _ _ rfl 43 ip _ 2 4 Tryz.underlying41 hip hp0 hp1 hp2 rfl (by decide) ((S19.alloc [.int .u16 x, .int .u16 y] 43).sel [2]) rfl rfl (Rd.lit (heap_alloc_new _ _)) rfl (by simp [Value.oneCell']) (by unfold maxLen; omega) (by omega) ?_; intro ao' cap' w23 S23))
                                  go_roundw
                                  case measure => simp [intOf]; omega
                                  case rel =>
                                    refine ⟨k + 1, ao', cap', by omega, by go_num, rfl, ?_⟩
                                    have e2 : pv (allP m2 mine his (k + 1)) = pv (allP m2 mine his k) ++ [.int .u16 x, .int .u16 y] := by
                                      rw [allP_succ, if_pos HM20.out, pv_append, HXY.out.1, HXY.out.2]; rfl
                                    unfold sps
                                    rw [e2]
                                    exact ((S23.sel [1]).tail.sel [1]).tail
                              · have hb := HB.out
                                rw [decide_eq_false hkT2] at hb
                                subst hb
                                obtain rfl : k = T := by omega
                                have hga := HGA.out
                                subst hga
                                have S16 : Sat w _ (sps ao k ac (allP m2 mine his k) :: lis la2 ln2 lc2 left2 :: SS g J s2 (2 * i + 2) :: blk tb (kv told2) 4 :: blk gp [.slice a n c, .int .i64 cap, .int .i64 fuel] 24 :: []) := S15
                                clear S15 HB
                                go_upto_region 40 with (first
                                  | (refine wpList_load_part rfl 24 _ rfl (n := 3) rfl (Sat.whole (S16.sel [4]) 3) rfl Tryz.underlying24 rfl Tryz.sizeG ?_)
                                  | (go_at_call 13; refine (r11play_any S16 (fun w' h => HRD.out _ _ h) HN.out hnm cap fuel seed hsd (fun w' h => by rw [← pv_pairsv]; exact h.own_rd) (allP_length _ _ _ _) (by omega) HPB.out).mono ?_; unfold Stepped; rw [HPL.out]; rintro e w17 ⟨rfl, S17⟩; have S18 := S17.alloc [.int .i64 0, .int .i32 0, .int .i32 0, .int .i32 0, .int .i32 0, .int .i32 0, .int .i32 0, .int .i32 0, .int .i32 0, .int .i32 0, .int .i32 0, .int .i32 0, .int .i32 0, .int .i32 0, .int .i32 0, .int .i32 0, .int .i32 0, .int .u32 0, .bool false, .int .i64 0] 46)
                                  | (refine wpList_store_sat (off := 0) (n := 20) rfl 46 _ _ rfl S18 rfl rfl HNL.out (by decide) Tryz.sizeS (svals_one N) ?_; intro w19 S19; rw [zstore] at S19))
                                have S20 : Sat w w19 (blk w17.heap.size (svals N) 46 :: sps ao k ac (allP m2 mine his k) :: lis la2 ln2 lc2 left2 :: SS g J s2 (2 * i + 2) :: blk tb (kv told2) 4 :: blk gp [.slice a n c, .int .i64 cap, .int .i64 fuel] 24 :: []) := S19
                                generalize w17.heap.size = pb at S20 ⊢
                                clear S16 S17 S18 S19
                                refine wp_region_drawn (N := 4) (LN := #[false, false, false, false]) (by kernel_rfl) (by kernel_rfl) (by kernel_rfl) ?_
                                have S21 := S20.drew
                                generalize World.drew _ = w21 at S21 ⊢
                                clear S20
                                refine wpAny_held (fun w' => ∀ j, j < 20 → w'.cell? ⟨pb, 0 + j, none⟩ = (svals N)[j]?) (Sat.whole S21 20) (fun hHeld => ?_)
                                refine wpAnyH_tk (i := 0) (v := ?_) (LN := #[true, false, false, false]) rfl (by kernel_rfl) (by kernel_rfl) (by kernel_rfl) (fun _ _ _ h => h) (by kernel_rfl) (by rfl) (by assumption) ?_ ?_
                                rotate_left
                                · intro w hSw; (try dsimp only at hSw); first | (go_simp; done) | (go_simp; with_reducible rfl)
                                try simp only [Act.put, List.getElem_toArray, List.getElem_cons_zero, List.getElem_cons_succ, List.setIfInBounds_toArray, List.set_cons_zero, List.set_cons_succ]
                                refine wpAnyH_tk (i := 2) (LN := #[true, false, true, false]) rfl (by kernel_rfl) (by kernel_rfl) (by kernel_rfl) (fun _ _ _ h => h) (by kernel_rfl) (by rfl) (by assumption) (fun w h => run_load_part 46 _ rfl (g := pb) (off := 0) (n := 20) rfl (h) HNL.out Tryz.underlying46 rfl (by kernel_rfl)) ?_
                                try simp only [Act.put, List.getElem_toArray, List.getElem_cons_zero, List.getElem_cons_succ, List.setIfInBounds_toArray, List.set_cons_zero, List.set_cons_succ]
                                refine wpAnyH_one (i := 1) (LN := #[true, true, true, false]) (by kernel_rfl) rfl (by kernel_rfl) ?_
                                intro K hK
                                go_simp
                                go_at_call 14
                                refine (sSure_any (S21.sel [3])).mono ?_
                                rw [HNS.out]
                                rintro e w22 ⟨rfl, S22⟩
                                go_wp2_with fail
                                refine hK.out _ _ (Sat.whole (S22.sel [1]) 20) ?_
                                clear hK K hHeld
                                intro hHeld
                                try simp only [Act.put, List.getElem_toArray, List.getElem_cons_zero, List.getElem_cons_succ, List.setIfInBounds_toArray, List.set_cons_zero, List.set_cons_succ]
                                refine wpAnyH_tk (i := 3) (LN := #[true, true, true, true]) rfl (by kernel_rfl) (by kernel_rfl) (by kernel_rfl) (fun _ _ _ h => h) (by kernel_rfl) (by rfl) (by assumption) (fun w h => run_eq_part .neq 46 _ _ rfl (r := false) rfl rfl (by kernel_rfl) (HEQ.out _)) ?_
                                try simp only [Act.put, List.getElem_toArray, List.getElem_cons_zero, List.getElem_cons_succ, List.setIfInBounds_toArray, List.set_cons_zero, List.set_cons_succ]
                                refine ⟨by kernel_rfl, ?_⟩
                                try simp only [Act.put, List.getElem_toArray, List.getElem_cons_zero, List.getElem_cons_succ, List.setIfInBounds_toArray, List.set_cons_zero, List.set_cons_succ]
                                clear hHeld S21
                                have hw : IntKind.i64.wrap ((i : Int) + 1) = (i : Int) + 1 := by rw [IntKind.wrap_i64]; omega
                                go_wp2_with fail
                                have S23 := (((S22.sel [1]).tail.sel [1]).tail).sel [1, 0]
                                go_roundw
                                case measure => simp [intOf]; omega
                                case rel => exact ⟨i + 1, s2, la2, ln2, lc2, left2, told2, by omega, by go_num, by rw [HD2.out], rfl, hln2, HI5.out, S23⟩
            · have hd : decide ((i : Int) < 300) = false := decide_eq_false (by omega)
              have hd' : decide (i < 300) = false := decide_eq_false hlt
              go_wp2_with (first
                | (go_at_call 9; refine (lknown_any S8).mono ?_; rintro e w9 ⟨rfl, S9⟩))
              go_ret
              exact ⟨rfl, S9.below⟩
end Go.Proofs.YtjdeeloemhjbhaaGreat
