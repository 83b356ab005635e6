/-
  The law VmStack, walked.
-/
import Derived.Test.YtlkmkclohkbjeaaVmK
import Derived.Test.YtlkmkclohkbjeaaVmF
import Derived.Test.YtlkmkclohkbjeaaVmG
namespace Go.Proofs.Ytlkmkclohkbjeaa
open Go.RowKit Go.Sep Go.Vm
set_option linter.unusedSimpArgs false

theorem Try.infoIns : (Try.prog.info? 45).map (fun i => (i.zero, i.size, i.bytes)) = some (some (.agg #[.int .i64 0, .int .i64 0]), 2, 16) := by kernel_rfl
theorem insv_rep (k : Nat) (v : Int) : insv (List.replicate k (1, v)) ++ [.int .i64 1, .int .i64 v] = insv (List.replicate (k + 1) (1, v)) := by
  rw [List.replicate_succ']
  unfold insv
  simp
theorem insv_scode (n : Nat) (v : Int) : insv (List.replicate n (1, v)) ++ [.int .i64 3, .int .i64 2] = insv (scode n v) := by
  unfold insv scode
  simp
theorem two_one (a b : Int) : ∀ u ∈ ([.int .i64 a, .int .i64 b] : List Value), u.oneCell' = true := by
  intro u hu
  simp only [List.mem_cons, List.not_mem_nil, or_false] at hu
  rcases hu with rfl | rfl <;> rfl

def wst : VS := ⟨1, [0, 0, 0, 0, 0, 0, 0, 0, 0, 0, 0, 0, 0, 0, 0, 0], 3, false, 0⟩
set_option maxRecDepth 100000 in
set_option maxHeartbeats 3200000 in
theorem VmStack_walk {w : World} (n v : Int) (hv : -2147483648 ≤ v ∧ v ≤ 2147483647) :
    Calls Try.prog 8 #[.int .i64 n, .int .i32 v] w fun e w' => e = .returned (.bool true) ∧ Below w.heap.size w w' := by
  have S0 := Sat.start w
  by_cases hn1 : n < 1
  · go_enter Try.func8, Try.ntmps8
    go_wp2_with (go_at_call 19; refine (vknown_any S0).mono ?_; rintro e w6 ⟨rfl, S6⟩)
    go_ret
    exact ⟨rfl, S6.below⟩
  by_cases hn2 : 60 < n
  · go_enter Try.func8, Try.ntmps8
    go_wp2_with (go_at_call 19; refine (vknown_any S0).mono ?_; rintro e w6 ⟨rfl, S6⟩)
    go_ret
    exact ⟨rfl, S6.below⟩
  obtain ⟨N, rfl⟩ : ∃ N : Nat, n = (N : Int) := ⟨n.toNat, by omega⟩
  have hN1 : 1 ≤ N := by omega
  have hN2 : N ≤ 60 := by omega
  have S1 := S0.alloc [.slice none 0 0, .int .i64 5, .int .i64 500] 24
  have S2 : Sat w _ (blk w.heap.size [.slice none 0 0, .int .i64 5, .int .i64 500] 24 :: slc 45 2 none 0 0 (insv (List.replicate 0 (1, v))) :: []) := (Sat.own_none.2 ⟨rfl, rfl, rfl, S1⟩).sel [1]
  obtain ⟨i0, hi, hz0, hz1, hz2⟩ := info_parts Try.infoIns
  obtain ⟨r, hr⟩ : ∃ r : Int, r = if N ≤ 32 then v else 0 := ⟨_, rfl⟩
  have hst := sstep (n := N) hv hN1 hN2
  rw [← hr] at hst
  obtain ⟨t, ht⟩ : ∃ t : VS, t = ⟨1, [0, 0, r, 0, 0, 0, 0, 0, 0, 0, 0, 0, 0, 0, 0, 0], 3, false, 0⟩ := ⟨_, rfl⟩
  rw [← ht] at hst
  have htl : t.cells.length = 16 := by rw [ht]; rfl
  have htw : svals t = (svals wst).set 3 (.int .i32 r) := by rw [ht]; rfl
  have HK1 := Lib.hid hst
  have HL20 : Hid ((svals t).length = 20) := by show _ = _; rw [ht]; rfl
  have HW := Lib.hid htw
  have HTL := Lib.hid htl
  have HR := Lib.hid hr
  clear hst ht htl htw hr
  go_enter Try.func8, Try.ntmps8
  go_wp2_with fail
  have S3 : Sat w _ (blk w.heap.size [.slice none 0 0, .int .i64 5, .int .i64 500] 24 :: slc 45 2 none 0 0 (insv (List.replicate 0 (1, v))) :: []) := S2
  generalize w.alloc (.cells #[.slice none 0 0, .int .i64 5, .int .i64 500] 24) = w1 at S3 ⊢
  generalize w.heap.size = pg at S3 ⊢
  clear S1 S2
  go_loopw [6] (fun i wr => ∃ (k : Nat) (ao : Option Addr) (cap : Nat), k ≤ N ∧ i = .int .i64 k ∧ Sat w wr (blk pg [.slice ao k cap, .int .i64 5, .int .i64 500] 24 :: slc 45 2 ao k cap (insv (List.replicate k (1, v))) :: [])) (fun i _ => N - (intOf i).toNat)
  case atStart => exact ⟨0, none, 0, by omega, rfl, S3⟩
  case round =>
    clear S3
    obtain ⟨k, ao, cap, hk, rfl, S4⟩ := hrel
    have c0 := S4.cell 0 rfl 0
    simp only [List.getElem?_cons_zero] at c0
    have hln := (S4.sel [1]).own_len
    by_cases hlt : k < N
    · have S5 := S4.alloc [.int .i64 1, .int .i64 v] 45
      go_wp2_with (at_builtin; refine wpList_append_sat rfl (.tmp 24) (.tmp 28) _ rfl 45 i0 (.agg #[.int .i64 0, .int .i64 0]) 2 16 Try.underlying22 hi hz0 hz1 hz2 rfl (by decide) (S5.sel [2]) rfl rfl (Rd.lit (heap_alloc_new _ _)) rfl (two_one _ _) (by unfold maxLen; omega) (by omega) ?_; intro ao2 cap2 w8 S8; rw [insv_rep] at S8; have c8 := S8.cell 2 rfl 0; simp only [List.getElem?_cons_zero] at c8; have f8 := S8.frozen 2 rfl 0; have S9 := S8.setCell 2 (k := 0) (v := .slice ao2 (k + 1) cap2) rfl)
      have S10 : Sat w _ (slc 45 2 ao2 (k + 1) cap2 (insv (List.replicate (k + 1) (1, v))) :: blk _ _ _ :: blk pg [.slice ao2 (k + 1) cap2, .int .i64 5, .int .i64 500] 24 :: []) := S9
      go_roundw
      case rel => exact ⟨k + 1, ao2, cap2, by omega, by go_num, ((S10.sel [1]).tail).sel [1]⟩
      case measure => simp [intOf]; omega
    · obtain rfl : k = N := by omega
      have S5 := S4.alloc [.int .i64 3, .int .i64 2] 45
      go_upto_region 9 with (at_builtin; refine wpList_append_sat rfl (.tmp 32) (.tmp 34) _ rfl 45 i0 (.agg #[.int .i64 0, .int .i64 0]) 2 16 Try.underlying22 hi hz0 hz1 hz2 rfl (by decide) (S5.sel [2]) rfl rfl (Rd.lit (heap_alloc_new _ _)) rfl (two_one _ _) (by unfold maxLen; omega) (by omega) ?_; intro ao2 cap2 w8 S8; rw [insv_scode] at S8; have c8 := S8.cell 2 rfl 0; simp only [List.getElem?_cons_zero] at c8; have f8 := S8.frozen 2 rfl 0; have S9 := S8.setCell 2 (k := 0) (v := .slice ao2 (k + 1) cap2) rfl)
      have S10 : Sat w _ (slc 45 2 ao2 (k + 1) cap2 (insv (scode k v)) :: blk _ _ _ :: blk pg [.slice ao2 (k + 1) cap2, .int .i64 5, .int .i64 500] 24 :: []) := S9
      have S11 := ((S10.sel [1]).tail).sel [1]
      clear S9 S10 S8 S5 S4 c0 c8 f8
      generalize w8.setCell ⟨pg, 0, none⟩ (.slice ao2 (k + 1) cap2) = w2 at S11 ⊢
      have S1d := S11.drew
      clear S11
      go_cut [7, 8] (fun v2 v3 wx => ∃ y, v2 = .pointer (some ⟨y, 0, none⟩) ∧ v3 = .int .i64 0 ∧ Sat w wx (blk y (svals t) 28 :: blk pg [.slice ao2 (k + 1) cap2, .int .i64 5, .int .i64 500] 24 :: slc 45 2 ao2 (k + 1) cap2 (insv (scode k v)) :: []))
      case first =>
        refine wp_region_held_drew (S := fun w' => w'.cell? ⟨pg, 0, none⟩ = some (.slice ao2 (k + 1) cap2) ∧ w'.cell? ⟨pg, 1, none⟩ = some (.int .i64 5) ∧ w'.cell? ⟨pg, 2, none⟩ = some (.int .i64 500)) (by kernel_rfl) (gat S1d) (fun hHeld => ?_)
        first
          | (refine wpAnyH_take (i := 0) (v := ?_) rfl (by kernel_rfl) (by kernel_rfl) (by kernel_rfl) (fun _ _ _ h => h) (Or.inl ⟨by rfl, ?_⟩) (by assumption) ?_
             rotate_left
             · (intro w hSw; (try dsimp only at hSw); first | (go_simp; done) | (go_simp; with_reducible rfl))
             (try simp only [Act.put, List.setIfInBounds_toArray, List.set_cons_zero, List.set_cons_succ]))
          | fail
        first
          | (refine wpAnyH_take (i := 2) (v := ?_) rfl (by kernel_rfl) (by kernel_rfl) (by kernel_rfl) (fun _ _ _ h => h) (Or.inl ⟨by rfl, ?_⟩) (by assumption) ?_
             rotate_left
             · (intro w hSw; (try dsimp only at hSw); first | (go_simp; done) | (go_simp; with_reducible rfl))
             (try simp only [Act.put, List.setIfInBounds_toArray, List.set_cons_zero, List.set_cons_succ]))
          | fail
        refine wpAnyH_ready (rs := [1, 7]) (by kernel_rfl) (by simp) ?_
        refine AllReadyH.cons rfl (fun K hK => ?_) (AllReadyH.cons rfl (fun K hK => ?_) AllReadyH.nil)
        · go_simp
          go_at_call 20
          refine (vStart_any S1d 3 (by omega)).mono ?_
          unfold StartsAt
          rintro e w2 ⟨rfl, S2⟩
          go_wp2_with fail
          refine hK.out _ _ (gat S2) (fun h2 => ?_)
          clear hK K hHeld
          try simp only [Act.put, List.setIfInBounds_toArray, List.set_cons_zero, List.set_cons_succ]
          refine wpAnyH_ready (rs := [3, 7]) (by kernel_rfl) (by simp) ?_
          refine AllReadyH.cons rfl (fun K hK => ?_) (AllReadyH.cons rfl (fun K hK => ?_) AllReadyH.nil)
          · go_simp
            go_at_call 15
            refine (vStep_any (n := k + 1) S2 (fun w' h => (h.sel [1]).own_rd) (scode_len k v) (by unfold maxLen; omega) 5 500 (hs := start_ok (x := 3) (by omega)) 0 0 (by omega) (by omega)).mono ?_
            unfold Stepped
            rintro e w3 ⟨rfl, S3⟩
            rw [HK1.out]
            go_wp2_with fail
            refine hK.out _ _ (gat S3) (fun h3 => ?_)
            clear hK K h2
            try simp only [Act.put, List.setIfInBounds_toArray, List.set_cons_zero, List.set_cons_succ]
            first
              | (refine wpAnyH_take (i := 4) (v := ?_) rfl (by kernel_rfl) (by kernel_rfl) (by kernel_rfl) (fun _ _ _ h => h) (Or.inl ⟨by rfl, ?_⟩) (by assumption) ?_
                 rotate_left
                 · (intro w hSw; (try dsimp only at hSw); first | (go_simp; done) | (go_simp; with_reducible rfl))
                 (try simp only [Act.put, List.setIfInBounds_toArray, List.set_cons_zero, List.set_cons_succ]))
              | fail
            first
              | (refine wpAnyH_take (i := 5) (v := ?_) rfl (by kernel_rfl) (by kernel_rfl) (by kernel_rfl) (fun _ _ _ h => h) (Or.inl ⟨by rfl, ?_⟩) (by assumption) ?_
                 rotate_left
                 · (intro w hSw; (try dsimp only at hSw); first | (go_simp; done) | (go_simp; with_reducible rfl))
                 (try simp only [Act.put, List.setIfInBounds_toArray, List.set_cons_zero, List.set_cons_succ]))
              | fail
            first
              | (refine wpAnyH_take (i := 6) (v := ?_) rfl (by kernel_rfl) (by kernel_rfl) (by kernel_rfl) (fun _ _ _ h => h) (Or.inl ⟨by rfl, ?_⟩) (by assumption) ?_
                 rotate_left
                 · (intro w hSw; (try dsimp only at hSw); first | (go_simp; done) | (go_simp; with_reducible rfl))
                 (try simp only [Act.put, List.setIfInBounds_toArray, List.set_cons_zero, List.set_cons_succ]))
              | fail
            refine wpAnyH_ready (rs := [7]) (by kernel_rfl) (by simp) ?_
            refine AllReadyH.cons rfl (fun K hK => ?_) AllReadyH.nil
            go_simp
            have S4 := S3.alloc [.int .i64 0, .int .i32 0, .int .i32 0, .int .i32 0, .int .i32 0, .int .i32 0, .int .i32 0, .int .i32 0, .int .i32 0, .int .i32 0, .int .i32 0, .int .i32 0, .int .i32 0, .int .i32 0, .int .i32 0, .int .i32 0, .int .i32 0, .int .u32 0, .bool false, .int .i64 0] 28
            refine hK.out _ _ (gat S4.tail) (fun h4 => ?_)
            clear hK K h3
            try simp only [Act.put, List.setIfInBounds_toArray, List.set_cons_zero, List.set_cons_succ]
            refine wpAnyH_ready (rs := [8]) (by kernel_rfl) (by simp) ?_
            refine AllReadyH.cons rfl (fun K hK => ?_) AllReadyH.nil
            refine step_store_sat (off := 0) (n := 20) rfl 28 _ _ rfl S4 rfl rfl HL20.out (by decide) Try.sizeS (svals_one _) ?_
            intro w4 S5
            rw [zstore] at S5
            refine hK.out _ _ (gat S5.tail) (fun h5 => ?_)
            clear hK K h4
            try simp only [Act.put, List.setIfInBounds_toArray, List.set_cons_zero, List.set_cons_succ]
            first
              | (refine wpAnyH_take (i := 9) (v := ?_) rfl (by kernel_rfl) (by kernel_rfl) (by kernel_rfl) (fun _ _ _ h => h) (Or.inl ⟨by rfl, ?_⟩) (by assumption) ?_
                 rotate_left
                 · (intro w hSw; (try dsimp only at hSw); first | (go_simp; done) | (go_simp; with_reducible rfl))
                 (try simp only [Act.put, List.setIfInBounds_toArray, List.set_cons_zero, List.set_cons_succ]))
              | fail
            refine wpAnyH_done (by kernel_rfl) ?_ _
            simp only [List.getElem_toArray, List.getElem_cons_zero, List.getElem_cons_succ, List.setIfInBounds_toArray, List.set_cons_zero, List.set_cons_succ]
            go_wp2_with fail
            go_meet
            exact ⟨_, rfl, rfl, S5⟩
          · go_simp
            have S4 := S2.alloc [.int .i64 0, .int .i32 0, .int .i32 0, .int .i32 0, .int .i32 0, .int .i32 0, .int .i32 0, .int .i32 0, .int .i32 0, .int .i32 0, .int .i32 0, .int .i32 0, .int .i32 0, .int .i32 0, .int .i32 0, .int .i32 0, .int .i32 0, .int .u32 0, .bool false, .int .i64 0] 28
            refine hK.out _ _ (gat S4.tail) (fun h3 => ?_)
            clear hK K h2
            try simp only [Act.put, List.setIfInBounds_toArray, List.set_cons_zero, List.set_cons_succ]
            refine wpAnyH_ready (rs := [3]) (by kernel_rfl) (by simp) ?_
            refine AllReadyH.cons rfl (fun K hK => ?_) AllReadyH.nil
            go_simp
            go_at_call 15
            refine (vStep_any (n := k + 1) S4 (fun w' h => (h.sel [2]).own_rd) (scode_len k v) (by unfold maxLen; omega) 5 500 (hs := start_ok (x := 3) (by omega)) 0 0 (by omega) (by omega)).mono ?_
            unfold Stepped
            rintro e w3 ⟨rfl, S6⟩
            rw [HK1.out]
            go_wp2_with fail
            refine hK.out _ _ (gat S6.tail) (fun h4 => ?_)
            clear hK K h3
            try simp only [Act.put, List.setIfInBounds_toArray, List.set_cons_zero, List.set_cons_succ]
            first
              | (refine wpAnyH_take (i := 4) (v := ?_) rfl (by kernel_rfl) (by kernel_rfl) (by kernel_rfl) (fun _ _ _ h => h) (Or.inl ⟨by rfl, ?_⟩) (by assumption) ?_
                 rotate_left
                 · (intro w hSw; (try dsimp only at hSw); first | (go_simp; done) | (go_simp; with_reducible rfl))
                 (try simp only [Act.put, List.setIfInBounds_toArray, List.set_cons_zero, List.set_cons_succ]))
              | fail
            first
              | (refine wpAnyH_take (i := 5) (v := ?_) rfl (by kernel_rfl) (by kernel_rfl) (by kernel_rfl) (fun _ _ _ h => h) (Or.inl ⟨by rfl, ?_⟩) (by assumption) ?_
                 rotate_left
                 · (intro w hSw; (try dsimp only at hSw); first | (go_simp; done) | (go_simp; with_reducible rfl))
                 (try simp only [Act.put, List.setIfInBounds_toArray, List.set_cons_zero, List.set_cons_succ]))
              | fail
            first
              | (refine wpAnyH_take (i := 6) (v := ?_) rfl (by kernel_rfl) (by kernel_rfl) (by kernel_rfl) (fun _ _ _ h => h) (Or.inl ⟨by rfl, ?_⟩) (by assumption) ?_
                 rotate_left
                 · (intro w hSw; (try dsimp only at hSw); first | (go_simp; done) | (go_simp; with_reducible rfl))
                 (try simp only [Act.put, List.setIfInBounds_toArray, List.set_cons_zero, List.set_cons_succ]))
              | fail
            refine wpAnyH_ready (rs := [8]) (by kernel_rfl) (by simp) ?_
            refine AllReadyH.cons rfl (fun K hK => ?_) AllReadyH.nil
            refine step_store_sat (off := 0) (n := 20) rfl 28 _ _ rfl S6 rfl rfl HL20.out (by decide) Try.sizeS (svals_one _) ?_
            intro w4 S5
            rw [zstore] at S5
            refine hK.out _ _ (gat S5.tail) (fun h5 => ?_)
            clear hK K h4
            try simp only [Act.put, List.setIfInBounds_toArray, List.set_cons_zero, List.set_cons_succ]
            first
              | (refine wpAnyH_take (i := 9) (v := ?_) rfl (by kernel_rfl) (by kernel_rfl) (by kernel_rfl) (fun _ _ _ h => h) (Or.inl ⟨by rfl, ?_⟩) (by assumption) ?_
                 rotate_left
                 · (intro w hSw; (try dsimp only at hSw); first | (go_simp; done) | (go_simp; with_reducible rfl))
                 (try simp only [Act.put, List.setIfInBounds_toArray, List.set_cons_zero, List.set_cons_succ]))
              | fail
            refine wpAnyH_done (by kernel_rfl) ?_ _
            simp only [List.getElem_toArray, List.getElem_cons_zero, List.getElem_cons_succ, List.setIfInBounds_toArray, List.set_cons_zero, List.set_cons_succ]
            go_wp2_with fail
            go_meet
            exact ⟨_, rfl, rfl, S5⟩
        · go_simp
          have S4 := S1d.alloc [.int .i64 0, .int .i32 0, .int .i32 0, .int .i32 0, .int .i32 0, .int .i32 0, .int .i32 0, .int .i32 0, .int .i32 0, .int .i32 0, .int .i32 0, .int .i32 0, .int .i32 0, .int .i32 0, .int .i32 0, .int .i32 0, .int .i32 0, .int .u32 0, .bool false, .int .i64 0] 28
          refine hK.out _ _ (gat S4.tail) (fun h2 => ?_)
          clear hK K hHeld
          try simp only [Act.put, List.setIfInBounds_toArray, List.set_cons_zero, List.set_cons_succ]
          refine wpAnyH_ready (rs := [1]) (by kernel_rfl) (by simp) ?_
          refine AllReadyH.cons rfl (fun K hK => ?_) AllReadyH.nil
          go_simp
          go_at_call 20
          refine (vStart_any S4 3 (by omega)).mono ?_
          unfold StartsAt
          rintro e w2 ⟨rfl, S6⟩
          go_wp2_with fail
          refine hK.out _ _ (gat S6.tail) (fun h3 => ?_)
          clear hK K h2
          try simp only [Act.put, List.setIfInBounds_toArray, List.set_cons_zero, List.set_cons_succ]
          refine wpAnyH_ready (rs := [3]) (by kernel_rfl) (by simp) ?_
          refine AllReadyH.cons rfl (fun K hK => ?_) AllReadyH.nil
          go_simp
          go_at_call 15
          refine (vStep_any (n := k + 1) S6 (fun w' h => (h.sel [2]).own_rd) (scode_len k v) (by unfold maxLen; omega) 5 500 (hs := start_ok (x := 3) (by omega)) 0 0 (by omega) (by omega)).mono ?_
          unfold Stepped
          rintro e w3 ⟨rfl, S7⟩
          rw [HK1.out]
          go_wp2_with fail
          refine hK.out _ _ (gat S7.tail) (fun h4 => ?_)
          clear hK K h3
          try simp only [Act.put, List.setIfInBounds_toArray, List.set_cons_zero, List.set_cons_succ]
          first
            | (refine wpAnyH_take (i := 4) (v := ?_) rfl (by kernel_rfl) (by kernel_rfl) (by kernel_rfl) (fun _ _ _ h => h) (Or.inl ⟨by rfl, ?_⟩) (by assumption) ?_
               rotate_left
               · (intro w hSw; (try dsimp only at hSw); first | (go_simp; done) | (go_simp; with_reducible rfl))
               (try simp only [Act.put, List.setIfInBounds_toArray, List.set_cons_zero, List.set_cons_succ]))
            | fail
          first
            | (refine wpAnyH_take (i := 5) (v := ?_) rfl (by kernel_rfl) (by kernel_rfl) (by kernel_rfl) (fun _ _ _ h => h) (Or.inl ⟨by rfl, ?_⟩) (by assumption) ?_
               rotate_left
               · (intro w hSw; (try dsimp only at hSw); first | (go_simp; done) | (go_simp; with_reducible rfl))
               (try simp only [Act.put, List.setIfInBounds_toArray, List.set_cons_zero, List.set_cons_succ]))
            | fail
          first
            | (refine wpAnyH_take (i := 6) (v := ?_) rfl (by kernel_rfl) (by kernel_rfl) (by kernel_rfl) (fun _ _ _ h => h) (Or.inl ⟨by rfl, ?_⟩) (by assumption) ?_
               rotate_left
               · (intro w hSw; (try dsimp only at hSw); first | (go_simp; done) | (go_simp; with_reducible rfl))
               (try simp only [Act.put, List.setIfInBounds_toArray, List.set_cons_zero, List.set_cons_succ]))
            | fail
          refine wpAnyH_ready (rs := [8]) (by kernel_rfl) (by simp) ?_
          refine AllReadyH.cons rfl (fun K hK => ?_) AllReadyH.nil
          refine step_store_sat (off := 0) (n := 20) rfl 28 _ _ rfl S7 rfl rfl HL20.out (by decide) Try.sizeS (svals_one _) ?_
          intro w4 S5
          rw [zstore] at S5
          refine hK.out _ _ (gat S5.tail) (fun h5 => ?_)
          clear hK K h4
          try simp only [Act.put, List.setIfInBounds_toArray, List.set_cons_zero, List.set_cons_succ]
          first
            | (refine wpAnyH_take (i := 9) (v := ?_) rfl (by kernel_rfl) (by kernel_rfl) (by kernel_rfl) (fun _ _ _ h => h) (Or.inl ⟨by rfl, ?_⟩) (by assumption) ?_
               rotate_left
               · (intro w hSw; (try dsimp only at hSw); first | (go_simp; done) | (go_simp; with_reducible rfl))
               (try simp only [Act.put, List.setIfInBounds_toArray, List.set_cons_zero, List.set_cons_succ]))
            | fail
          refine wpAnyH_done (by kernel_rfl) ?_ _
          simp only [List.getElem_toArray, List.getElem_cons_zero, List.getElem_cons_succ, List.setIfInBounds_toArray, List.set_cons_zero, List.set_cons_succ]
          go_wp2_with fail
          go_meet
          exact ⟨_, rfl, rfl, S5⟩
      case rest =>
        obtain ⟨y, rfl, rfl, S5⟩ := hcut
        have S6 := S5.alloc [.int .i64 0, .int .i32 0, .int .i32 0, .int .i32 0, .int .i32 0, .int .i32 0, .int .i32 0, .int .i32 0, .int .i32 0, .int .i32 0, .int .i32 0, .int .i32 0, .int .i32 0, .int .i32 0, .int .i32 0, .int .i32 0, .int .i32 0, .int .u32 0, .bool false, .int .i64 0] 28
        have HEQ := Lib.hid (fun w' => (run_eql_state (s := t) (t := t) w' HTL.out HTL.out).trans (by rw [decide_eq_true rfl]))
        by_cases hf : k ≤ 32
        · have hr' : (svals wst).set 3 (.int .i32 v) = svals t := by rw [HW.out, HR.out, if_pos hf]
          have HRR := Lib.hid hr'
          have hf' : (k : Int) ≤ 32 := by omega
          clear hr'
          go_wp2_with (first
            | (refine wpList_load_guard rfl 28 _ rfl (n := 20) rfl (Sat.whole (S8.sel [1]) 20) HL20.out Try.underlying28 rfl Try.sizeS ?_)
            | (refine wpList_load_guard rfl 28 _ rfl (n := 20) rfl (Sat.whole S8 20) HL20.out Try.underlying28 rfl Try.sizeS ?_)
            | (refine wpList_eq_agg rfl .eql 28 _ _ rfl (r := true) rfl rfl (by kernel_rfl) (HEQ.out _) ?_)
            | (refine wpList_store_sat (news := svals wst) (off := 0) (n := 20) rfl 28 _ _ rfl S6 rfl rfl rfl (by decide) Try.sizeS (svals_one _) ?_; intro w7 S7; rw [zstore] at S7; have c7 : w7.cell? ⟨wc.heap.size, 3, none⟩ = some (.int .i32 0) := S7.cell 0 rfl 3; have f7 := S7.frozen 0 rfl 3; have S8 := S7.setCell 0 (k := 3) (v := .int .i32 v) rfl; rw [HRR.out] at S8)
            | (go_at_call 19; refine (vknown_any S8).mono ?_; rintro e w6 ⟨rfl, S9⟩))
          go_ret
          exact ⟨rfl, S9.below⟩
        · have hr' : svals wst = svals t := by rw [HW.out, HR.out, if_neg hf]; rfl
          have HRR := Lib.hid hr'
          have hf' : ¬ (k : Int) ≤ 32 := by omega
          clear hr'
          go_wp2_with (first
            | (refine wpList_load_guard rfl 28 _ rfl (n := 20) rfl (Sat.whole (S8.sel [1]) 20) HL20.out Try.underlying28 rfl Try.sizeS ?_)
            | (refine wpList_load_guard rfl 28 _ rfl (n := 20) rfl (Sat.whole S8 20) HL20.out Try.underlying28 rfl Try.sizeS ?_)
            | (refine wpList_eq_agg rfl .eql 28 _ _ rfl (r := true) rfl rfl (by kernel_rfl) (HEQ.out _) ?_)
            | (refine wpList_store_sat (news := svals wst) (off := 0) (n := 20) rfl 28 _ _ rfl S6 rfl rfl rfl (by decide) Try.sizeS (svals_one _) ?_; intro w7 S8; rw [zstore, HRR.out] at S8)
            | (go_at_call 19; refine (vknown_any S8).mono ?_; rintro e w6 ⟨rfl, S9⟩))
          go_ret
          exact ⟨rfl, S9.below⟩
end Go.Proofs.Ytlkmkclohkbjeaa
