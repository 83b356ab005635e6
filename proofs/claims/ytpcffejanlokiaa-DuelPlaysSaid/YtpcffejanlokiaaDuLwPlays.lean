/-
  The law DuelPlays, walked.
-/
import Derived.Test.YtpcffejanlokiaaDu6
namespace Go.Proofs.Ytpcffejanlokiaa
open Go.RowKit Go.Sep Go.Vm
set_option linter.unusedSimpArgs false

set_option maxRecDepth 100000 in
set_option maxHeartbeats 6400000 in
theorem DuelPlays_walk {w : World} {a : Option Addr} {n c : Nat} {code : List (Int × Int)} (hR : Rd w a (insv code)) (hn : code.length = n) (hnm : n ≤ maxLen) (cap fuel : Int) (seed : Int) (hsd : 0 ≤ seed ∧ seed < 4294967296)
    {b : Option Addr} {m d : Nat} {ps : List (Int × Int)} (hRb : Rd w b (pairsv ps)) (hm : ps.length = m) (hmm : m ≤ maxLen) (hpb : ∀ x ∈ ps, (0 ≤ x.1 ∧ x.1 < 65536) ∧ (0 ≤ x.2 ∧ x.2 < 65536)) :
    Calls Try.prog 7 #[.agg #[.slice a n c, .int .i64 cap, .int .i64 fuel], .int .u32 seed, .slice b m d] w fun e w' => e = .returned (.bool true) ∧ Below w.heap.size w w' := by
  have S0 := Sat.start w
  have S1 := S0.alloc [.slice a n c, .int .i64 cap, .int .i64 fuel] 24
  have c0 := S1.cell 0 rfl 0
  simp only [List.getElem?_cons_zero] at c0
  have HN := Lib.hid hn
  have HM := Lib.hid hm
  have HRD := Lib.hid (fun (L : List Asn) (w' : World) (h : Sat w w' L) => hR.below h.below)
  have HRB := Lib.hid (fun (L : List Asn) (w' : World) (h : Sat w w' L) => hRb.below h.below)
  have HPB := Lib.hid hpb
  clear hn hm hR hRb hpb
  by_cases hbig : 300 < n ∨ 100 < m
  · have hh : (decide (300 < n) || decide (100 < m)) = true := by simpa using hbig
    have HH := Lib.hid hh
    clear hh hbig
    go_enter Try.func7, Try.ntmps7
    go_wp2_with (go_at_call 9; refine (heavy_any S1 a b n c m d cap fuel hnm hmm HH.out).mono ?_; rintro e w2 ⟨rfl, S2⟩)
    go_ret
    exact ⟨rfl, S2.below⟩
  have hh : (decide (300 < n) || decide (100 < m)) = false := by simpa using hbig
  have HH := Lib.hid hh
  have hn300 : n ≤ 300 := by omega
  have hm100 : m ≤ 100 := by omega
  obtain ⟨i0, hi, hz0, hz1, hz2⟩ := info_parts Try.infoPair
  have hm9 : m ≤ 900 := by omega
  have hAok := playP_ok (code := code) (cap := cap) (fuel := fuel) hsd HPB.out
  have hLok := statesP_ok (code := code) (cap := cap) (fuel := fuel) hsd HPB.out
  have hLlen := statesP_len (code := code) (cap := cap) (fuel := fuel) (seed := seed) (ps := ps)
  obtain ⟨A, ck, hpl⟩ : ∃ A ck, playP code cap fuel seed ps = (A, ck) := ⟨_, _, rfl⟩
  have hck : checkP code cap fuel = ck := by have := playP_err (code := code) (cap := cap) (fuel := fuel) (seed := seed) (ps := ps); rw [hpl] at this; exact this.symm
  obtain ⟨l, hst⟩ : ∃ l, statesP code cap fuel seed ps = l := ⟨_, rfl⟩
  rw [hpl] at hAok
  rw [hst, HM.out] at hLlen
  rw [hst] at hLok
  have HAOK : Hid A.Ok := hAok
  have HPL := Lib.hid hpl
  have HST := Lib.hid hst
  have HCK := Lib.hid hck
  have HLOK := Lib.hid hLok
  have HAL := Lib.hid (svals_length hAok.len)
  have HEQA := Lib.hid (fun w' => (run_neq_state (s := A) (t := A) w' hAok.len hAok.len).trans (by rw [decide_eq_true rfl]))
  clear hpl hst hLok hAok hck
  clear hbig hh
  go_enter Try.func7, Try.ntmps7
  go_wp2_with (first
    | (go_at_call 9; refine (heavy_any S1 a b n c m d cap fuel hnm hmm HH.out).mono ?_; rintro e w2 ⟨rfl, S2⟩; have g2 := gat S2; have S2n : Sat w (w2.alloc (.cells #[] 39)) (slc 39 2 (some ⟨w2.heap.size, 0, none⟩) 0 0 [] :: blk w.heap.size [.slice a n c, .int .i64 cap, .int .i64 fuel] 24 :: []) := Sat.own_new (post := []) (S2.alloc [] 39) rfl (Nat.le_refl _) (by unfold maxLen; omega) (by simp))
    | (at_builtin; refine wpList_append_sat rfl (.tmp 27) (.tmp 28) _ rfl 39 i0 _ 2 4 Try.underlying26 hi hz0 hz1 hz2 rfl (by decide) S2n rfl rfl (HRB.out _ _ S2n) (by rw [pairsv_length, HM.out]) (pairsv_one _) (by unfold maxLen; omega) (by omega) ?_; intro ao1 cap1 w3 S3; simp only [Nat.zero_add, List.nil_append] at S3; have g3 := gat S3.tail)
    | (go_at_call 11; refine (play_any S3 (fun w' h => HRD.out _ _ h) HN.out hnm cap fuel seed hsd (fun w' h => h.own_rd) HM.out hm9 HPB.out).mono ?_; unfold Stepped; rintro e w4 ⟨rfl, S4⟩; rw [HPL.out]; have S5 := S4.alloc [.int .i64 0, .int .i32 0, .int .i32 0, .int .i32 0, .int .i32 0, .int .i32 0, .int .i32 0, .int .i32 0, .int .i32 0, .int .i32 0, .int .i32 0, .int .i32 0, .int .i32 0, .int .i32 0, .int .i32 0, .int .i32 0, .int .i32 0, .int .u32 0, .bool false, .int .i64 0] 31; have g4 := gat (S5.sel [2]))
    | (refine wpList_store_sat (off := 0) (n := 20) rfl 31 _ _ rfl S5 rfl rfl HAL.out (by decide) Try.sizeS (svals_one A) ?_; intro w6 S6; rw [zstore] at S6; have g6 := gat (S6.sel [2]))
    | (go_at_call 17; refine (r11play_any S6 (fun w' h => HRD.out _ _ h) HN.out hnm cap fuel seed hsd (fun w' h => HRB.out _ _ h) HM.out hm9 HPB.out).mono ?_; unfold Stepped; rintro e w7 ⟨rfl, S7⟩; rw [HPL.out]; have S8 := S7.alloc [.int .i64 0, .int .i32 0, .int .i32 0, .int .i32 0, .int .i32 0, .int .i32 0, .int .i32 0, .int .i32 0, .int .i32 0, .int .i32 0, .int .i32 0, .int .i32 0, .int .i32 0, .int .i32 0, .int .i32 0, .int .i32 0, .int .i32 0, .int .u32 0, .bool false, .int .i64 0] 31)
    | (refine wpList_store_sat (off := 0) (n := 20) rfl 31 _ _ rfl S8 rfl rfl HAL.out (by decide) Try.sizeS (svals_one A) ?_; intro w9 S9; rw [zstore] at S9; have g9 := gat (S9.sel [3]))
    | (go_at_call 18; refine (states_any S9 (fun w' h => HRD.out _ _ h) HN.out hnm cap fuel seed hsd (fun w' h => (h.sel [2]).own_rd) HM.out hm9 HPB.out).mono ?_; unfold StatesPost; rintro e w10 ⟨ao10, cp10, rfl, S10⟩; rw [HST.out] at S10 ⊢; rw [HCK.out]; have g10 := gat (S10.sel [4]))
    | (go_at_call 19; refine (r11states_any S10 (fun w' h => HRD.out _ _ h) HN.out hnm cap fuel seed hsd (fun w' h => HRB.out _ _ h) HM.out hm9 HPB.out).mono ?_; unfold StatesPost; rintro e w11 ⟨ao11, cp11, rfl, S11⟩; rw [HST.out] at S11 ⊢; rw [HCK.out])
    | (refine wpList_load_guard (by rfl) 31 _ rfl (n := 20) rfl (Sat.whole (S11.sel [3]) 20) HAL.out Try.underlying31 rfl Try.sizeS ?_)
    | (refine wpList_load_guard (by rfl) 31 _ rfl (n := 20) rfl (Sat.whole (S11.sel [2]) 20) HAL.out Try.underlying31 rfl Try.sizeS ?_)
    | (refine wpList_eq_agg (by rfl) .neq 31 _ _ rfl (r := false) rfl rfl (by kernel_rfl) (HEQA.out _) ?_)
    )
  have S12 : Sat w w11 (sst ao11 l.length cp11 l :: sst ao10 l.length cp10 l :: blk w7.heap.size (svals A) 31 :: blk w4.heap.size (svals A) 31 :: slc 39 2 ao1 m cap1 (pairsv ps) :: blk w.heap.size [.slice a n c, .int .i64 cap, .int .i64 fuel] 24 :: []) := S11
  generalize w7.heap.size = qb at S12 ⊢
  generalize w4.heap.size = qa at S12 ⊢
  obtain ⟨pg, hpg⟩ : ∃ pg, pg = w.heap.size := ⟨_, rfl⟩
  rw [← hpg] at S12 ⊢
  clear hpg S1 S2 S3 S4 S5 S6 S7 S8 S9 S10 S11 S2n c0 g2 g3 g4 g6 g9 g10 HEQA hi hz0 hz1 hz2
  go_loopw [16] (fun i wr => ∃ (k : Nat), k ≤ l.length ∧ i = .int .i64 k ∧ Sat w wr (sst ao11 l.length cp11 l :: sst ao10 l.length cp10 l :: blk qb (svals A) 31 :: blk qa (svals A) 31 :: slc 39 2 ao1 m cap1 (pairsv ps) :: blk pg [.slice a n c, .int .i64 cap, .int .i64 fuel] 24 :: [])) (fun i _ => l.length - (intOf i).toNat)
  case atStart => exact ⟨0, by omega, rfl, S12⟩
  case round =>
    clear S12
    obtain ⟨k, hk, rfl, S13⟩ := hrel
    have k0 : (0 : Int) ≤ (k : Int) := Int.natCast_nonneg _
    by_cases hlt : k < l.length
    · have k1 : (k : Int) < (l.length : Int) := by omega
      obtain ⟨t, ht⟩ : ∃ t, l[k]? = some t := ⟨l[k], List.getElem?_eq_getElem hlt⟩
      have S14 := S13.drew
      obtain ⟨b1, off1, rfl, cl1⟩ := sst_at S14 HLOK.out ht
      obtain ⟨b2, off2, rfl, cl2⟩ := sst_at (S14.sel [1]) HLOK.out ht
      have hto := HLOK.out t (List.mem_of_getElem? ht)
      have HTL := Lib.hid (svals_length hto.len)
      have HEQT := Lib.hid (fun w' => (run_neq_state (s := t) (t := t) w' hto.len hto.len).trans (by rw [decide_eq_true rfl]))
      clear ht
      go_upto_region 13 with fail
      refine wp_region_drawn (N := 9) (LN := #[false, false, false, false, false, false, false, false, false]) (by kernel_rfl) (by kernel_rfl) (by kernel_rfl) ?_
      refine wpAny_seg 0 8 1 9 #[true, true, true, true, true, true, true, true, false] (by kernel_rfl) (by kernel_rfl) ?_
      simp only [List.take_succ_cons, List.take_zero, List.drop_succ_cons, List.drop_zero]
      refine wpStill_step (fun K hK => ?_); go_simp; refine hK _ ?_; clear hK K
      try simp only [Act.put, List.getElem_toArray, List.getElem_cons_zero, List.getElem_cons_succ, List.setIfInBounds_toArray, List.set_cons_zero, List.set_cons_succ]
      refine wpStill_step (fun K hK => ?_); go_simp; refine hK _ ?_; clear hK K
      try simp only [Act.put, List.getElem_toArray, List.getElem_cons_zero, List.getElem_cons_succ, List.setIfInBounds_toArray, List.set_cons_zero, List.set_cons_succ]
      refine wpStill_step (fun K hK => ?_); go_simp; refine hK _ ?_; clear hK K
      try simp only [Act.put, List.getElem_toArray, List.getElem_cons_zero, List.getElem_cons_succ, List.setIfInBounds_toArray, List.set_cons_zero, List.set_cons_succ]
      refine wpStill_step (fun K hK => ?_); refine still_load_part rfl 31 _ rfl (n := 20) rfl cl2 HTL.out Try.underlying31 rfl Try.sizeS ?_; refine hK _ ?_; clear hK K
      try simp only [Act.put, List.getElem_toArray, List.getElem_cons_zero, List.getElem_cons_succ, List.setIfInBounds_toArray, List.set_cons_zero, List.set_cons_succ]
      refine wpStill_step (fun K hK => ?_); go_simp; refine hK _ ?_; clear hK K
      try simp only [Act.put, List.getElem_toArray, List.getElem_cons_zero, List.getElem_cons_succ, List.setIfInBounds_toArray, List.set_cons_zero, List.set_cons_succ]
      refine wpStill_step (fun K hK => ?_); go_simp; refine hK _ ?_; clear hK K
      try simp only [Act.put, List.getElem_toArray, List.getElem_cons_zero, List.getElem_cons_succ, List.setIfInBounds_toArray, List.set_cons_zero, List.set_cons_succ]
      refine wpStill_step (fun K hK => ?_); go_simp; refine hK _ ?_; clear hK K
      try simp only [Act.put, List.getElem_toArray, List.getElem_cons_zero, List.getElem_cons_succ, List.setIfInBounds_toArray, List.set_cons_zero, List.set_cons_succ]
      refine wpStill_step (fun K hK => ?_); refine still_load_part rfl 31 _ rfl (n := 20) rfl cl1 HTL.out Try.underlying31 rfl Try.sizeS ?_; refine hK _ ?_; clear hK K
      try simp only [Act.put, List.getElem_toArray, List.getElem_cons_zero, List.getElem_cons_succ, List.setIfInBounds_toArray, List.set_cons_zero, List.set_cons_succ]
      refine wpStill_nil ?_
      refine wpAny_one (i := 8) (LN := #[true, true, true, true, true, true, true, true, true]) (by kernel_rfl) rfl (by kernel_rfl) ?_
      intro K hK
      refine step_eq_agg (by rfl) .neq 31 _ _ rfl (r := false) rfl rfl (by kernel_rfl) (HEQT.out _) ?_
      refine hK.out _ _ ?_
      clear hK K
      try simp only [Act.put, List.getElem_toArray, List.getElem_cons_zero, List.getElem_cons_succ, List.setIfInBounds_toArray, List.set_cons_zero, List.set_cons_succ]
      refine ⟨by kernel_rfl, ?_⟩
      try simp only [Act.put, List.getElem_toArray, List.getElem_cons_zero, List.getElem_cons_succ, List.setIfInBounds_toArray, List.set_cons_zero, List.set_cons_succ]
      go_wp2_with fail
      exact ⟨⟨k + 1, by omega, rfl, S14⟩, by simp [intOf]; omega⟩
    · have hkm : k = l.length := by omega
      subst hkm
      go_wp2_with fail
      go_loopw [17] (fun i wr => ∃ (k : Nat), k ≤ m ∧ i = .int .i64 k ∧ Sat w wr (sst ao11 l.length cp11 l :: sst ao10 l.length cp10 l :: blk qb (svals A) 31 :: blk qa (svals A) 31 :: slc 39 2 ao1 m cap1 (pairsv ps) :: blk pg [.slice a n c, .int .i64 cap, .int .i64 fuel] 24 :: [])) (fun i _ => m - (intOf i).toNat)
      case atStart => exact ⟨0, by omega, rfl, S13⟩
      case round =>
        clear S13 k0 hlt hk
        obtain ⟨k, hk, rfl, S15⟩ := hrel
        have k0 : (0 : Int) ≤ (k : Int) := Int.natCast_nonneg _
        by_cases hlt : k < m
        · have k1 : (k : Int) < (m : Int) := by omega
          obtain ⟨x, hx⟩ : ∃ x, ps[k]? = some x := ⟨ps[k]'(by rw [HM.out]; exact hlt), List.getElem?_eq_getElem _⟩
          have S16 := S15.drew
          obtain ⟨b1, off1, rfl, p0, p1⟩ := pairsv_cells (HRB.out _ _ S16) hx
          obtain ⟨b2, off2, rfl, q0, q1⟩ := pairsv_cells (S16.sel [4]).own_rd hx
          obtain ⟨x1, x2⟩ := x
          have HEQP := Lib.hid (fun w' => (run_neq_pair w' (x1, x2) (x1, x2)).trans (by rw [decide_eq_true rfl]))
          clear hx
          go_upto_region 18 with fail
          refine wp_region_drawn (N := 9) (LN := #[false, false, false, false, false, false, false, false, false]) (by kernel_rfl) (by kernel_rfl) (by kernel_rfl) ?_
          refine wpAny_seg 0 8 1 9 #[true, true, true, true, true, true, true, true, false] (by kernel_rfl) (by kernel_rfl) ?_
          simp only [List.take_succ_cons, List.take_zero, List.drop_succ_cons, List.drop_zero]
          refine wpStill_step (fun K hK => ?_); go_simp; refine hK _ ?_; clear hK K
          try simp only [Act.put, List.getElem_toArray, List.getElem_cons_zero, List.getElem_cons_succ, List.setIfInBounds_toArray, List.set_cons_zero, List.set_cons_succ]
          refine wpStill_step (fun K hK => ?_); go_simp; refine hK _ ?_; clear hK K
          try simp only [Act.put, List.getElem_toArray, List.getElem_cons_zero, List.getElem_cons_succ, List.setIfInBounds_toArray, List.set_cons_zero, List.set_cons_succ]
          refine wpStill_step (fun K hK => ?_); go_simp; refine hK _ ?_; clear hK K
          try simp only [Act.put, List.getElem_toArray, List.getElem_cons_zero, List.getElem_cons_succ, List.setIfInBounds_toArray, List.set_cons_zero, List.set_cons_succ]
          refine wpStill_step (fun K hK => ?_); go_simp; refine hK _ ?_; clear hK K
          try simp only [Act.put, List.getElem_toArray, List.getElem_cons_zero, List.getElem_cons_succ, List.setIfInBounds_toArray, List.set_cons_zero, List.set_cons_succ]
          refine wpStill_step (fun K hK => ?_); go_simp; refine hK _ ?_; clear hK K
          try simp only [Act.put, List.getElem_toArray, List.getElem_cons_zero, List.getElem_cons_succ, List.setIfInBounds_toArray, List.set_cons_zero, List.set_cons_succ]
          refine wpStill_step (fun K hK => ?_); go_simp; refine hK _ ?_; clear hK K
          try simp only [Act.put, List.getElem_toArray, List.getElem_cons_zero, List.getElem_cons_succ, List.setIfInBounds_toArray, List.set_cons_zero, List.set_cons_succ]
          refine wpStill_step (fun K hK => ?_); go_simp; refine hK _ ?_; clear hK K
          try simp only [Act.put, List.getElem_toArray, List.getElem_cons_zero, List.getElem_cons_succ, List.setIfInBounds_toArray, List.set_cons_zero, List.set_cons_succ]
          refine wpStill_step (fun K hK => ?_); go_simp; refine hK _ ?_; clear hK K
          try simp only [Act.put, List.getElem_toArray, List.getElem_cons_zero, List.getElem_cons_succ, List.setIfInBounds_toArray, List.set_cons_zero, List.set_cons_succ]
          refine wpStill_nil ?_
          refine wpAny_one (i := 8) (LN := #[true, true, true, true, true, true, true, true, true]) (by kernel_rfl) rfl (by kernel_rfl) ?_
          intro K hK
          refine step_eq_agg (by rfl) .neq 39 _ _ rfl (r := false) rfl rfl (by kernel_rfl) (HEQP.out _) ?_
          refine hK.out _ _ ?_
          clear hK K
          try simp only [Act.put, List.getElem_toArray, List.getElem_cons_zero, List.getElem_cons_succ, List.setIfInBounds_toArray, List.set_cons_zero, List.set_cons_succ]
          refine ⟨by kernel_rfl, ?_⟩
          try simp only [Act.put, List.getElem_toArray, List.getElem_cons_zero, List.getElem_cons_succ, List.setIfInBounds_toArray, List.set_cons_zero, List.set_cons_succ]
          go_wp2_with fail
          exact ⟨⟨k + 1, by omega, rfl, S16⟩, by simp [intOf]; omega⟩
        · have hkm : k = m := by omega
          subst hkm
          have g15 := gat (S15.sel [5])
          go_wp2_with (first
            | (refine wpList_load_part rfl 31 _ rfl (n := 20) rfl (Sat.whole (S15.sel [3]) 20) HAL.out Try.underlying31 rfl Try.sizeS ?_)
            | (refine wpList_load_part rfl 31 _ rfl (n := 20) rfl (Sat.whole (S17.sel [2]) 20) HAL.out Try.underlying31 rfl Try.sizeS ?_)
            | (go_at_call 14; refine (result_any S15 HAOK.out _ _ _ cap fuel).mono ?_; unfold ResPost; rintro e w17 ⟨rfl, S17⟩; have g17 := gat (S17.sel [5]))
            | (go_at_call 15; refine (r11result_any S17 HAOK.out _ _ _ cap fuel).mono ?_; unfold ResPost; rintro e w18 ⟨rfl, S18⟩)
            | (go_at_call 13; refine (dknown_any S18).mono ?_; rintro e w19 ⟨rfl, S19⟩))
          go_ret
          exact ⟨rfl, S19.below⟩
end Go.Proofs.Ytpcffejanlokiaa
