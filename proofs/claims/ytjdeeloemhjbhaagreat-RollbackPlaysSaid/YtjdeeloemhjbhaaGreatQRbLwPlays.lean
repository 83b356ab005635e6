/-
  The law RollbackPlays, walked.
-/
import Derived.Test.YtjdeeloemhjbhaaGreatQRbH

namespace Go.Proofs.YtjdeeloemhjbhaaGreat
open Go.RowKit Go.Sep Go.Vm Go.Inp
set_option linter.unusedSimpArgs false

theorem Tryz.sizeRS : (Tryz.prog.info? 57).map (·.size) = some 3 := by kernel_rfl
theorem zstore3 {x : List Value} (h : x.length = 3) : ([.int .i64 0, .int .i64 0, .int .u16 0] : List Value).take 0 ++ x ++ ([.int .i64 0, .int .i64 0, .int .u16 0] : List Value).drop (0 + 3) = x := by simp
set_option maxRecDepth 100000 in
set_option maxHeartbeats 6400000 in
theorem RollbackPlays_walk {w : World} {a : Option Addr} {n c : Nat} {code : List (Int × Int)} (hR : Rd w a (insv code)) (hn : code.length = n) (hnm : n ≤ maxLen) (cap fuel : Int) (seed : Int) (hsd : 0 ≤ seed ∧ seed < 4294967296) (me : Int) {l : Sl RStepT} (hl : RSRows w l) :
    Calls Tryz.prog 5 #[.agg #[.slice a n c, .int .i64 cap, .int .i64 fuel], .int .u32 seed, .int .i64 me, .slice l.ao l.len l.cap] w fun e w' => e = .returned (.bool true) ∧ Below w.heap.size w w' := by
  have S0 := Sat.start w
  have S1 := S0.alloc [.slice a n c, .int .i64 cap, .int .i64 fuel] 24
  have HRD : Hid (∀ (M : List Asn) (w' : World), Sat w w' M → Rd w' a (insv code)) := fun M w' h => hR.below h.below
  have HN := Lib.hid hn
  obtain ⟨ao, ln, lc, els, xs⟩ := l
  have hlen : xs.length = ln := hl.len
  have hlm : ln ≤ 140737488351232 := hl.reach
  have HL := Lib.hid hl
  have HLEN := Lib.hid hlen
  clear hl hlen hR hn
  dsimp only
  cases hsl : slowP n fuel with
  | true =>
    go_enter Tryz.func5, Tryz.ntmps5
    go_wp2_with (first
      | (refine wpList_load_part rfl 24 _ rfl (n := 3) rfl (Sat.whole S1 3) rfl Tryz.underlying24 rfl Tryz.sizeG ?_)
      | (go_at_call 7; refine (slow_any S1 a n c cap fuel).mono ?_; rw [hsl]; rintro e w2 ⟨rfl, S2⟩))
    go_ret
    exact ⟨rfl, S2.below⟩
  | false =>
    by_cases hk : checkP code cap fuel = 0
    rotate_left
    · have hne : (checkP code cap fuel != 0) = true := by simpa using hk
      obtain ⟨e0, he0⟩ : ∃ e0, checkP code cap fuel = e0 := ⟨_, rfl⟩
      have hee : (e0 != e0) = false := by simp
      have HB1 := Lib.hid (fun w' M (S : Sat w w' M) => rbNew_bad S (c := c) (fun w' h => HRD.out _ _ h) HN.out hnm cap fuel seed me hk)
      have HB2 := Lib.hid (fun w' M (S : Sat w w' M) => dNew_bad S (c := c) HRD.out HN.out hnm cap fuel seed me hk)
      rw [he0] at hne HB1 HB2
      clear hk he0
      go_enter Tryz.func5, Tryz.ntmps5
      go_wp2_with (first
        | (go_at_call 7; refine (slow_any S1 a n c cap fuel).mono ?_; rw [hsl]; rintro e w2 ⟨rfl, S2⟩)
        | (go_at_call 10; refine (HB1.out _ _ S2).mono ?_; rintro e w3 ⟨rfl, S3⟩)
        | (go_at_call 15; refine (HB2.out _ _ S3).mono ?_; rintro e w4 ⟨rfl, S4⟩)
        | (refine wpList_load_part rfl 24 _ rfl (n := 3) rfl (Sat.whole S3 3) rfl Tryz.underlying24 rfl Tryz.sizeG ?_)
        | (refine wpList_load_part rfl 24 _ rfl (n := 3) rfl (Sat.whole S2 3) rfl Tryz.underlying24 rfl Tryz.sizeG ?_)
        | (refine wpList_load_part rfl 24 _ rfl (n := 3) rfl (Sat.whole S1 3) rfl Tryz.underlying24 rfl Tryz.sizeG ?_)
        | (go_at_call 9; refine (lknown_any S4).mono ?_; rintro e w5 ⟨rfl, S5⟩))
      go_ret
      exact ⟨rfl, S5.below⟩
    by_cases hm : Seat me
    rotate_left
    · have HB1 := Lib.hid (fun w' M (S : Sat w w' M) => rbNew_seat S (c := c) (fun w' h => HRD.out _ _ h) HN.out hnm cap fuel seed me hk hm)
      have HB2 := Lib.hid (fun w' M (S : Sat w w' M) => dNew_seat S (c := c) HRD.out HN.out hnm cap fuel seed me hk hm)
      clear hk hm
      go_enter Tryz.func5, Tryz.ntmps5
      go_wp2_with (first
        | (go_at_call 7; refine (slow_any S1 a n c cap fuel).mono ?_; rw [hsl]; rintro e w2 ⟨rfl, S2⟩)
        | (go_at_call 10; refine (HB1.out _ _ S2).mono ?_; rintro e w3 ⟨rfl, S3⟩)
        | (go_at_call 15; refine (HB2.out _ _ S3).mono ?_; rintro e w4 ⟨rfl, S4⟩)
        | (refine wpList_load_part rfl 24 _ rfl (n := 3) rfl (Sat.whole S3 3) rfl Tryz.underlying24 rfl Tryz.sizeG ?_)
        | (refine wpList_load_part rfl 24 _ rfl (n := 3) rfl (Sat.whole S2 3) rfl Tryz.underlying24 rfl Tryz.sizeG ?_)
        | (refine wpList_load_part rfl 24 _ rfl (n := 3) rfl (Sat.whole S1 3) rfl Tryz.underlying24 rfl Tryz.sizeG ?_)
        | (go_at_call 9; refine (lknown_any S4).mono ?_; rintro e w5 ⟨rfl, S5⟩))
      go_ret
      exact ⟨rfl, S5.below⟩
    have HB1 := Lib.hid (fun w' M (S : Sat w w' M) => rbNew_ok S (c := c) (fun w' h => HRD.out _ _ h) HN.out cap fuel seed me hk hm hsd)
    have HB2 := Lib.hid (fun w' M (S : Sat w w' M) => dNew_ok S (c := c) HRD.out HN.out cap fuel seed me hk hm)
    obtain ⟨J, hK⟩ : ∃ J : SK, (⟨code, cap, fuel, seed, me⟩ : SK) = J := ⟨_, rfl⟩
    have hKc : J.code = code := by rw [← hK]
    rw [hK] at HB1 HB2
    have HRK : Hid (∀ (M : List Asn) (w' : World), Sat w w' M → Rd w' a (insv J.code)) := by rw [hKc]; exact HRD
    have HNK : Hid (J.code.length = n) := by show _ = _; rw [hKc]; exact HN.out
    clear hk hm hK hKc
    go_enter Tryz.func5, Tryz.ntmps5
    go_wp2_with (first
      | (go_at_call 7; refine (slow_any S1 a n c cap fuel).mono ?_; rw [hsl]; rintro e w2 ⟨rfl, S2⟩)
      | (go_at_call 10; refine (HB1.out _ _ S2).mono ?_; rintro e w3 ⟨g, rfl, S3⟩)
      | (go_at_call 15; refine (HB2.out _ _ S3).mono ?_; rintro e w4 ⟨g2, qp, rfl, S4⟩)
      | (refine wpList_load_part rfl 24 _ rfl (n := 3) rfl (Sat.whole (S3.sel [1]) 3) rfl Tryz.underlying24 rfl Tryz.sizeG ?_)
      | (refine wpList_load_part rfl 24 _ rfl (n := 3) rfl (Sat.whole S2 3) rfl Tryz.underlying24 rfl Tryz.sizeG ?_)
      | (refine wpList_load_part rfl 24 _ rfl (n := 3) rfl (Sat.whole S1 3) rfl Tryz.underlying24 rfl Tryz.sizeG ?_))
    have S5 : Sat w w4 (SS g J J.new 0 :: blk g2 (dcv a n c J qp J.new) 64 :: RQu qp J.new.q :: []) := ((S4.sel [3]).tail).sel [2, 0, 0]
    clear S0 S1 S2 S3 S4 HB1 HB2 hsl
    go_loopw [13] (fun iv wr => ∃ (k : Nat) (s : PS), k ≤ ln ∧ k ≤ 120 ∧ iv = .int .i64 k ∧ Sat w wr (SS g J s k :: blk g2 (dcv a n c J qp s) 64 :: RQu qp s.q :: [])) (fun iv _ => ln - (intOf iv).toNat)
    case atStart => exact ⟨0, J.new, by omega, by omega, rfl, S5⟩
    case round =>
      clear S5
      obtain ⟨k, s, hk, hk2, rfl, S6⟩ := hrel
      have k0 : (0 : Int) ≤ (k : Int) := by omega
      by_cases hlt : k < ln
      · have hd : decide ((k : Int) < (ln : Int)) = true := decide_eq_true (by omega)
        have hd' : decide (k < ln) = true := decide_eq_true hlt
        have k1 : (k : Int) < (ln : Int) := by omega
        by_cases h2 : k < 120
        · have hd2 : decide ((k : Int) < 120) = true := decide_eq_true (by omega)
          have hd2' : decide (k < 120) = true := decide_eq_true h2
          obtain ⟨r, hr⟩ : ∃ r, xs[k]? = some r := ⟨xs[k]'(by rw [HLEN.out]; exact hlt), List.getElem?_eq_getElem _⟩
          obtain ⟨b, off, hao, hg, hc⟩ := HL.out.cells hr
          obtain ⟨kd, fr, x⟩ := r
          dsimp only at hao hg
          subst hao
          have hw3 : IntKind.i64.wrap ((k : Int) + 1) = (k : Int) + 1 := by rw [IntKind.wrap_i64]; omega
          have HC : Hid (∀ j, j < 3 → wr.cell? ⟨b, off + k * 3 + j, none⟩ = ([.int .i64 kd, .int .i64 fr, .int .u16 x] : List Value)[j]?) := fun j hj => hc wr S6.below j hj
          have HG := Lib.hid (SS_good S6)
          have S7 := S6.alloc [.int .i64 0, .int .i64 0, .int .u16 0] 57
          clear hr hc
          go_upto_region 13 with (first
            | (refine wpList_load_part rfl 57 _ rfl (n := 3) rfl HC.out rfl Tryz.underlying57 rfl Tryz.sizeRS ?_)
            | (refine wpList_store_sat (off := 0) (n := 3) rfl 57 _ _ rfl S7 rfl rfl rfl (by decide) Tryz.sizeRS (by simp [Value.oneCell']) ?_; intro w8 S8; rw [zstore3 rfl] at S8))
          generalize wr.heap.size = tb at S8 ⊢
          clear HC S6 S7
          have t0 := S8.cell 0 rfl 0
          have t2 := S8.cell 0 rfl 2
          simp only [List.getElem?_cons_zero, List.getElem?_cons_succ] at t0 t2
          by_cases hkd : kd = 1
          · subst hkd
            obtain ⟨A, hA⟩ : ∃ A, J.loc s x = A := ⟨_, rfl⟩
            have HL1 := Lib.hid (fun w' M (S : Sat w w' (SS g J s k :: M)) => sLoc_any S (by omega) hg)
            have HL2 := Lib.hid (fun w' M (S : Sat w w' (blk g2 (dcv a n c J qp s) 64 :: RQu qp s.q :: M)) => dLoc_any S HG.out (by omega) HRK.out HNK.out x)
            unfold Loced at HL1
            unfold DLoced at HL2
            rw [hA] at HL1 HL2
            clear hA
            obtain ⟨⟨A1, A2⟩, s2⟩ := A
            dsimp only at HL1 HL2
            have e1 : (A1 != A1) = false := by simp
            have e2 : (A2 != A2) = false := by simp
            go_upto_region 20 with (first
              | (go_at_call 11; refine (HL1.out _ _ (S8.sel [1])).mono ?_; rintro e w9 ⟨rfl, S9⟩; have t2 := S9.cell 1 rfl 2; simp only [List.getElem?_cons_zero, List.getElem?_cons_succ] at t2)
              | (go_at_call 16; refine (HL2.out _ _ (S9.sel [2, 2])).mono ?_; rintro e w10 ⟨rfl, S10⟩))
            have S11 : Sat w w10 (SS g J s2 (k + 1) :: blk g2 (dcv a n c J qp s2) 64 :: RQu qp s2.q :: blk tb [.int .i64 1, .int .i64 fr, .int .u16 x] 57 :: []) := S10.sel [2, 0, 0]
            clear S8 S9 S10 HL1 HL2 t0 t2 e1 e2
            have HG2 := Lib.hid (SS_good S11)
            have hln := HG2.out.now.len
            have hls := HG2.out.sure.len
            have HE1 := Lib.hid (fun w' => (run_neq_state (s := J.now s2) (t := J.now s2) w' hln hln).trans (by rw [decide_eq_true rfl]))
            have HE2 := Lib.hid (fun w' => (run_neq_state (s := J.sure s2) (t := J.sure s2) w' hls hls).trans (by rw [decide_eq_true rfl]))
            have e3 : (s2.st != s2.st) = false := by simp
            have e4 : (s2.wr != s2.wr) = false := by simp
            obtain ⟨kn, hkn⟩ : ∃ kn : Nat, s2.q.known (1 - J.me) = kn := ⟨_, rfl⟩
            have HKN := Lib.hid hkn
            clear hln hls hkn
            go_wp2_with (first
              | (go_at_call 18; refine (sWork_any S11).mono ?_; rintro e w12 ⟨rfl, S12⟩)
              | (go_at_call 19; refine (sNow_any S12).mono ?_; rintro e w13 ⟨rfl, S13⟩)
              | (go_at_call 20; refine (dNow_any (S13.sel [1, 1]) HG2.out HRK.out HNK.out).mono ?_; rintro e w14 ⟨rfl, S14⟩)
              | (refine wpList_eq_agg (by rfl) .neq 46 _ _ rfl (r := false) rfl rfl (by kernel_rfl) (HE1.out _) ?_)
              | (go_at_call 14; refine (sSure_any (S14.sel [2])).mono ?_; rintro e w15 ⟨rfl, S15⟩)
              | (go_at_call 21; refine (dSure_any (S15.sel [1, 1]) HG2.out HRK.out HNK.out).mono ?_; rintro e w16 ⟨rfl, S16⟩; have c7 := (d_at S16).st; have c8 := (d_at S16).wr)
              | (refine wpList_eq_agg (by rfl) .neq 46 _ _ rfl (r := false) rfl rfl (by kernel_rfl) (HE2.out _) ?_)
              | (go_at_call 22; refine (sNeeds_any (S16.sel [2])).mono ?_; rw [HKN.out]; rintro e w17 ⟨rfl, S17⟩)
              | (go_at_call 23; refine (dNeeds_any (S17.sel [1, 1]) HG2.out).mono ?_; rw [HKN.out]; rintro e w18 ⟨rfl, S18⟩))
            exact ⟨⟨k + 1, s2, by omega, by omega, by go_num, (((S18.sel [3]).tail).sel [2, 0, 0])⟩, by simp [intOf]; omega⟩
          · have hkd1 : (kd == 1) = false := by simpa using hkd
            clear hkd
            obtain ⟨A, hA⟩ : ∃ A, J.rem s fr x = A := ⟨_, rfl⟩
            have HL1 := Lib.hid (fun w' M (S : Sat w w' (SS g J s k :: M)) => sRem_any S (by omega) fr hg)
            have HL2 := Lib.hid (fun w' M (S : Sat w w' (blk g2 (dcv a n c J qp s) 64 :: RQu qp s.q :: M)) => dRem_any S HG.out (by omega) HRK.out HNK.out fr hg)
            unfold Remed at HL1
            unfold DRemed at HL2
            rw [hA] at HL1 HL2
            clear hA
            obtain ⟨A1, s2⟩ := A
            dsimp only at HL1 HL2
            have e1 : (A1 != A1) = false := by simp
            go_upto_region 18 with fail
            have HT12 := Lib.hid (fun (w' : World) (M : List Asn) (h : Sat w w' (blk tb [.int .i64 kd, .int .i64 fr, .int .u16 x] 57 :: M)) => (⟨h.cell 0 rfl 1, h.cell 0 rfl 2⟩ : w'.cell? ⟨tb, 1, none⟩ = some (.int .i64 fr) ∧ w'.cell? ⟨tb, 2, none⟩ = some (.int .u16 x)))
            clear t0 t2
            refine wp_region_drawn (N := 13) (LN := #[false, false, false, false, false, false, false, false, false, false, false, false, false]) (by kernel_rfl) (by kernel_rfl) (by kernel_rfl) ?_
            have S9 := S8.drew
            generalize w8.drew = w9 at S9 ⊢
            clear S8
            refine wpAny_held (fun w' => w'.cell? ⟨tb, 1, none⟩ = some (.int .i64 fr) ∧ w'.cell? ⟨tb, 2, none⟩ = some (.int .u16 x)) (HT12.out _ _ S9) (fun hHeld => ?_)
            refine wpAnyH_tk (i := 0) (v := ?_) (LN := #[true, false, false, false, false, false, false, false, false, false, false, false, false]) rfl (by kernel_rfl) (by kernel_rfl) (by kernel_rfl) (fun _ _ _ h => h) (by kernel_rfl) (by rfl) (by assumption) ?_ ?_
            rotate_left
            · intro w hSw; (try dsimp only at hSw); first | (go_simp; done) | (go_simp; with_reducible rfl)
            try simp only [Act.put, List.getElem_toArray, List.getElem_cons_zero, List.getElem_cons_succ, List.setIfInBounds_toArray, List.set_cons_zero, List.set_cons_succ]
            refine wpAnyH_tk (i := 1) (v := ?_) (LN := #[true, true, false, false, false, false, false, false, false, false, false, false, false]) rfl (by kernel_rfl) (by kernel_rfl) (by kernel_rfl) (fun _ _ _ h => h) (by kernel_rfl) (by rfl) (by assumption) ?_ ?_
            rotate_left
            · intro w hSw; (try dsimp only at hSw); first | (go_simp; done) | (go_simp; with_reducible rfl)
            try simp only [Act.put, List.getElem_toArray, List.getElem_cons_zero, List.getElem_cons_succ, List.setIfInBounds_toArray, List.set_cons_zero, List.set_cons_succ]
            refine wpAnyH_tk (i := 2) (v := ?_) (LN := #[true, true, true, false, false, false, false, false, false, false, false, false, false]) rfl (by kernel_rfl) (by kernel_rfl) (by kernel_rfl) (fun _ _ _ h => h) (by kernel_rfl) (by rfl) (by assumption) ?_ ?_
            rotate_left
            · intro w hSw; (try dsimp only at hSw); first | (go_simp; done) | (go_simp; with_reducible rfl)
            try simp only [Act.put, List.getElem_toArray, List.getElem_cons_zero, List.getElem_cons_succ, List.setIfInBounds_toArray, List.set_cons_zero, List.set_cons_succ]
            refine wpAnyH_tk (i := 3) (v := ?_) (LN := #[true, true, true, true, false, false, false, false, false, false, false, false, false]) rfl (by kernel_rfl) (by kernel_rfl) (by kernel_rfl) (fun _ _ _ h => h) (by kernel_rfl) (by rfl) (by assumption) ?_ ?_
            rotate_left
            · intro w hSw; (try dsimp only at hSw); first | (go_simp; done) | (go_simp; with_reducible rfl)
            try simp only [Act.put, List.getElem_toArray, List.getElem_cons_zero, List.getElem_cons_succ, List.setIfInBounds_toArray, List.set_cons_zero, List.set_cons_succ]
            refine wpAnyH_tk (i := 4) (v := ?_) (LN := #[true, true, true, true, true, false, false, false, false, false, false, false, false]) rfl (by kernel_rfl) (by kernel_rfl) (by kernel_rfl) (fun _ _ _ h => h) (by kernel_rfl) (by rfl) (by assumption) ?_ ?_
            rotate_left
            · intro w hSw; (try dsimp only at hSw); first | (go_simp; done) | (go_simp; with_reducible rfl)
            try simp only [Act.put, List.getElem_toArray, List.getElem_cons_zero, List.getElem_cons_succ, List.setIfInBounds_toArray, List.set_cons_zero, List.set_cons_succ]
            refine wpAnyH_tk (i := 6) (v := ?_) (LN := #[true, true, true, true, true, false, true, false, false, false, false, false, false]) rfl (by kernel_rfl) (by kernel_rfl) (by kernel_rfl) (fun _ _ _ h => h) (by kernel_rfl) (by rfl) (by assumption) ?_ ?_
            rotate_left
            · intro w hSw; (try dsimp only at hSw); first | (go_simp; done) | (go_simp; with_reducible rfl)
            try simp only [Act.put, List.getElem_toArray, List.getElem_cons_zero, List.getElem_cons_succ, List.setIfInBounds_toArray, List.set_cons_zero, List.set_cons_succ]
            refine wpAnyH_tk (i := 7) (v := ?_) (LN := #[true, true, true, true, true, false, true, true, false, false, false, false, false]) rfl (by kernel_rfl) (by kernel_rfl) (by kernel_rfl) (fun _ _ _ h => h) (by kernel_rfl) (by rfl) (by assumption) ?_ ?_
            rotate_left
            · intro w hSw; (try dsimp only at hSw); first | (go_simp; done) | (go_simp; with_reducible rfl)
            try simp only [Act.put, List.getElem_toArray, List.getElem_cons_zero, List.getElem_cons_succ, List.setIfInBounds_toArray, List.set_cons_zero, List.set_cons_succ]
            refine wpAnyH_tk (i := 8) (v := ?_) (LN := #[true, true, true, true, true, false, true, true, true, false, false, false, false]) rfl (by kernel_rfl) (by kernel_rfl) (by kernel_rfl) (fun _ _ _ h => h) (by kernel_rfl) (by rfl) (by assumption) ?_ ?_
            rotate_left
            · intro w hSw; (try dsimp only at hSw); first | (go_simp; done) | (go_simp; with_reducible rfl)
            try simp only [Act.put, List.getElem_toArray, List.getElem_cons_zero, List.getElem_cons_succ, List.setIfInBounds_toArray, List.set_cons_zero, List.set_cons_succ]
            refine wpAnyH_tk (i := 9) (v := ?_) (LN := #[true, true, true, true, true, false, true, true, true, true, false, false, false]) rfl (by kernel_rfl) (by kernel_rfl) (by kernel_rfl) (fun _ _ _ h => h) (by kernel_rfl) (by rfl) (by assumption) ?_ ?_
            rotate_left
            · intro w hSw; (try dsimp only at hSw); first | (go_simp; done) | (go_simp; with_reducible rfl)
            try simp only [Act.put, List.getElem_toArray, List.getElem_cons_zero, List.getElem_cons_succ, List.setIfInBounds_toArray, List.set_cons_zero, List.set_cons_succ]
            refine wpAnyH_tk (i := 10) (v := ?_) (LN := #[true, true, true, true, true, false, true, true, true, true, true, false, false]) rfl (by kernel_rfl) (by kernel_rfl) (by kernel_rfl) (fun _ _ _ h => h) (by kernel_rfl) (by rfl) (by assumption) ?_ ?_
            rotate_left
            · intro w hSw; (try dsimp only at hSw); first | (go_simp; done) | (go_simp; with_reducible rfl)
            try simp only [Act.put, List.getElem_toArray, List.getElem_cons_zero, List.getElem_cons_succ, List.setIfInBounds_toArray, List.set_cons_zero, List.set_cons_succ]
            refine wpAnyH_one (i := 5) (LN := #[true, true, true, true, true, true, true, true, true, true, true, false, false]) (by kernel_rfl) rfl (by kernel_rfl) ?_
            intro K hK
            go_simp
            go_at_call 12
            refine (HL1.out _ _ (S9.sel [1])).mono ?_
            rintro e w10 ⟨rfl, S10⟩
            go_wp2_with fail
            refine hK.out _ _ (HT12.out _ _ (S10.sel [1])) ?_
            clear hK K hHeld
            intro hHeld
            try simp only [Act.put, List.getElem_toArray, List.getElem_cons_zero, List.getElem_cons_succ, List.setIfInBounds_toArray, List.set_cons_zero, List.set_cons_succ]
            refine wpAnyH_one (i := 11) (LN := #[true, true, true, true, true, true, true, true, true, true, true, true, false]) (by kernel_rfl) rfl (by kernel_rfl) ?_
            intro K hK
            go_simp
            go_at_call 17
            refine (HL2.out _ _ (S10.sel [2, 2])).mono ?_
            rintro e w11 ⟨rfl, S11⟩
            go_wp2_with fail
            refine hK.out _ _ (HT12.out _ _ (S11.sel [3])) ?_
            clear hK K hHeld
            intro hHeld
            try simp only [Act.put, List.getElem_toArray, List.getElem_cons_zero, List.getElem_cons_succ, List.setIfInBounds_toArray, List.set_cons_zero, List.set_cons_succ]
            refine wpAnyH_tk (i := 12) (v := ?_) (LN := #[true, true, true, true, true, true, true, true, true, true, true, true, true]) rfl (by kernel_rfl) (by kernel_rfl) (by kernel_rfl) (fun _ _ _ h => h) (by kernel_rfl) (by rfl) (by assumption) ?_ ?_
            rotate_left
            · intro w hSw; (try dsimp only at hSw); first | (go_simp; done) | (go_simp; with_reducible rfl)
            try simp only [Act.put, List.getElem_toArray, List.getElem_cons_zero, List.getElem_cons_succ, List.setIfInBounds_toArray, List.set_cons_zero, List.set_cons_succ]
            refine ⟨by kernel_rfl, ?_⟩
            try simp only [Act.put, List.getElem_toArray, List.getElem_cons_zero, List.getElem_cons_succ, List.setIfInBounds_toArray, List.set_cons_zero, List.set_cons_succ]
            go_upto_region 20 with fail
            have S12 : Sat w w11 (SS g J s2 (k + 1) :: blk g2 (dcv a n c J qp s2) 64 :: RQu qp s2.q :: blk tb [.int .i64 kd, .int .i64 fr, .int .u16 x] 57 :: []) := S11.sel [2, 0, 0]
            clear S9 S10 S11 HL1 HL2 HT12 e1 hHeld
            have HG2 := Lib.hid (SS_good S12)
            have hln := HG2.out.now.len
            have hls := HG2.out.sure.len
            have HE1 := Lib.hid (fun w' => (run_neq_state (s := J.now s2) (t := J.now s2) w' hln hln).trans (by rw [decide_eq_true rfl]))
            have HE2 := Lib.hid (fun w' => (run_neq_state (s := J.sure s2) (t := J.sure s2) w' hls hls).trans (by rw [decide_eq_true rfl]))
            have e3 : (s2.st != s2.st) = false := by simp
            have e4 : (s2.wr != s2.wr) = false := by simp
            obtain ⟨kn, hkn⟩ : ∃ kn : Nat, s2.q.known (1 - J.me) = kn := ⟨_, rfl⟩
            have HKN := Lib.hid hkn
            clear hln hls hkn
            go_wp2_with (first
              | (go_at_call 18; refine (sWork_any S12).mono ?_; rintro e w12 ⟨rfl, S12⟩)
              | (go_at_call 19; refine (sNow_any S12).mono ?_; rintro e w13 ⟨rfl, S13⟩)
              | (go_at_call 20; refine (dNow_any (S13.sel [1, 1]) HG2.out HRK.out HNK.out).mono ?_; rintro e w14 ⟨rfl, S14⟩)
              | (refine wpList_eq_agg (by rfl) .neq 46 _ _ rfl (r := false) rfl rfl (by kernel_rfl) (HE1.out _) ?_)
              | (go_at_call 14; refine (sSure_any (S14.sel [2])).mono ?_; rintro e w15 ⟨rfl, S15⟩)
              | (go_at_call 21; refine (dSure_any (S15.sel [1, 1]) HG2.out HRK.out HNK.out).mono ?_; rintro e w16 ⟨rfl, S16⟩; have c7 := (d_at S16).st; have c8 := (d_at S16).wr)
              | (refine wpList_eq_agg (by rfl) .neq 46 _ _ rfl (r := false) rfl rfl (by kernel_rfl) (HE2.out _) ?_)
              | (go_at_call 22; refine (sNeeds_any (S16.sel [2])).mono ?_; rw [HKN.out]; rintro e w17 ⟨rfl, S17⟩)
              | (go_at_call 23; refine (dNeeds_any (S17.sel [1, 1]) HG2.out).mono ?_; rw [HKN.out]; rintro e w18 ⟨rfl, S18⟩))
            exact ⟨⟨k + 1, s2, by omega, by omega, by go_num, (((S18.sel [3]).tail).sel [2, 0, 0])⟩, by simp [intOf]; omega⟩
        · have hd2 : decide ((k : Int) < 120) = false := decide_eq_false (by omega)
          have hd2' : decide (k < 120) = false := decide_eq_false h2
          go_wp2_with (first
            | (go_at_call 9; refine (lknown_any S6).mono ?_; rintro e w8 ⟨rfl, S8⟩))
          go_ret
          exact ⟨rfl, S8.below⟩
      · have hd : decide ((k : Int) < (ln : Int)) = false := decide_eq_false (by omega)
        have hd' : decide (k < ln) = false := decide_eq_false hlt
        go_wp2_with (first
          | (go_at_call 9; refine (lknown_any S6).mono ?_; rintro e w8 ⟨rfl, S8⟩))
        go_ret
        exact ⟨rfl, S8.below⟩
end Go.Proofs.YtjdeeloemhjbhaaGreat
