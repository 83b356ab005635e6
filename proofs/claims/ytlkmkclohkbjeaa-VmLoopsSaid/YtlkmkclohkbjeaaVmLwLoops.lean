/-
  The law VmLoops, walked.
-/
import Derived.Test.YtlkmkclohkbjeaaVmK
import Derived.Test.YtlkmkclohkbjeaaVmO
import Derived.Test.YtlkmkclohkbjeaaVmG
namespace Go.Proofs.Ytlkmkclohkbjeaa
open Go.RowKit Go.Sep Go.Vm
set_option linter.unusedSimpArgs false

set_option maxRecDepth 100000 in
set_option maxHeartbeats 3200000 in
theorem VmLoops_walk {w : World} (n fuel : Int) :
    Calls Try.prog 10 #[.int .i64 n, .int .i64 fuel] w fun e w' => e = .returned (.bool true) ∧ Below w.heap.size w w' := by
  have S0 := Sat.start w
  by_cases hn1 : n < 1
  · go_enter Try.func10, Try.ntmps10
    go_wp2_with (go_at_call 19; refine (vknown_any S0).mono ?_; rintro e w6 ⟨rfl, S6⟩)
    go_ret
    exact ⟨rfl, S6.below⟩
  by_cases hn2 : 100 < n
  · go_enter Try.func10, Try.ntmps10
    go_wp2_with (go_at_call 19; refine (vknown_any S0).mono ?_; rintro e w6 ⟨rfl, S6⟩)
    go_ret
    exact ⟨rfl, S6.below⟩
  by_cases hc1 : fuel < 1
  · go_enter Try.func10, Try.ntmps10
    go_wp2_with (go_at_call 19; refine (vknown_any S0).mono ?_; rintro e w6 ⟨rfl, S6⟩)
    go_ret
    exact ⟨rfl, S6.below⟩
  by_cases hc2 : 2000 < fuel
  · go_enter Try.func10, Try.ntmps10
    go_wp2_with (go_at_call 19; refine (vknown_any S0).mono ?_; rintro e w6 ⟨rfl, S6⟩)
    go_ret
    exact ⟨rfl, S6.below⟩
  obtain ⟨N, rfl⟩ : ∃ N : Nat, n = (N : Int) := ⟨n.toNat, by omega⟩
  have SA : Sat w (w.alloc (.cells #[.int .i64 1, .int .i64 (N : Int), .int .i64 3, .int .i64 5, .int .i64 2, .int .i64 5, .int .i64 19, .int .i64 13, .int .i64 2, .int .i64 5, .int .i64 1, .int .i64 1, .int .i64 5, .int .i64 0, .int .i64 3, .int .i64 5, .int .i64 2, .int .i64 6, .int .i64 1, .int .i64 3, .int .i64 4, .int .i64 0, .int .i64 3, .int .i64 6, .int .i64 18, .int .i64 2] 45)) (blk w.heap.size (insv (lcode N)) 45 :: []) := S0.alloc (insv (lcode N)) _
  have S1 := SA.alloc [.slice (some ⟨w.heap.size, 0, none⟩) 13 13, .int .i64 9, .int .i64 fuel] 24
  simp only [World.size_alloc] at S1
  obtain ⟨r, hr⟩ : ∃ r : Int, r = if 2 + 11 * (N : Int) + 2 ≤ fuel then 3 * (N : Int) else 0 := ⟨_, rfl⟩
  have hst := lstep (n := N) (fuel := fuel) (by omega) (by omega)
  rw [← hr] at hst
  obtain ⟨t, ht⟩ : ∃ t : VS, t = lst 1 0 r := ⟨_, rfl⟩
  rw [← ht] at hst
  have htl : t.cells.length = 16 := by rw [ht]; rfl
  have htw : (svals t) = (svals (lst 1 0 0)).set 7 (.int .i32 r) := by rw [ht]; rfl
  have HK1 := Lib.hid hst
  have HL20 : Hid ((svals t).length = 20) := by show _ = _; rw [ht]; rfl
  have HW := Lib.hid htw
  have HTL := Lib.hid htl
  have HR := Lib.hid hr
  clear hst ht htl htw hr
  go_enter Try.func10, Try.ntmps10
  go_upto_region 4 with fail
  generalize (w.alloc (.cells #[.int .i64 1, .int .i64 (N : Int), .int .i64 3, .int .i64 5, .int .i64 2, .int .i64 5, .int .i64 19, .int .i64 13, .int .i64 2, .int .i64 5, .int .i64 1, .int .i64 1, .int .i64 5, .int .i64 0, .int .i64 3, .int .i64 5, .int .i64 2, .int .i64 6, .int .i64 1, .int .i64 3, .int .i64 4, .int .i64 0, .int .i64 3, .int .i64 6, .int .i64 18, .int .i64 2] 45)).alloc (.cells #[.slice (some ⟨w.heap.size, 0, none⟩) 13 13, .int .i64 9, .int .i64 fuel] 24) = w1 at S1 ⊢
  generalize w.heap.size = pc at S1 ⊢
  have S1d := S1.drew
  go_cut [6, 7] (fun v2 v3 wx => ∃ y, v2 = .pointer (some ⟨y, 0, none⟩) ∧ v3 = .int .i64 0 ∧ Sat w wx (blk y (svals t) 28 :: blk (pc + 1) [.slice (some ⟨pc, 0, none⟩) 13 13, .int .i64 9, .int .i64 fuel] 24 :: blk pc (insv (lcode N)) 45 :: []))
  case first =>
    refine wp_region_held_drew (S := fun w' => w'.cell? ⟨pc + 1, 0, none⟩ = some (.slice (some ⟨pc, 0, none⟩) 13 13) ∧ w'.cell? ⟨pc + 1, 1, none⟩ = some (.int .i64 9) ∧ w'.cell? ⟨pc + 1, 2, none⟩ = some (.int .i64 fuel)) (by kernel_rfl) (gat S1d) (fun hHeld => ?_)
    first
      | (refine wpAnyH_take (i := 0) (v := ?_) rfl (by kernel_rfl) (by kernel_rfl) (by kernel_rfl) (fun _ _ _ h => h) (Or.inl ⟨by rfl, ?_⟩) (by assumption) ?_
         rotate_left
         · (intro w hSw; (try dsimp only at hSw); first | (go_simp; done) | (go_simp; with_reducible rfl))
         (try simp only [Act.put, List.setIfInBounds_toArray, List.set_cons_zero, List.set_cons_succ]))
      | fail
    first
      | (refine wpAnyH_take (i := 2) (v := ?_) rfl (by kernel_rfl) (by kernel_rfl) (by kernel_rfl) (fun _ _ _ h => h) (Or.inl ⟨by rfl, ?_⟩) (by assumption) ?_
         rotate_left
         · (intro w hSw; (try dsimp only at hSw); first | (go_simp; done) | (go_simp; with_reducible rfl))
         (try simp only [Act.put, List.setIfInBounds_toArray, List.set_cons_zero, List.set_cons_succ]))
      | fail
    refine wpAnyH_ready (rs := [1, 7]) (by kernel_rfl) (by simp) ?_
    refine AllReadyH.cons rfl (fun K hK => ?_) (AllReadyH.cons rfl (fun K hK => ?_) AllReadyH.nil)
    · go_simp
      go_at_call 20
      refine (vStart_any S1d 1 (by omega)).mono ?_
      unfold StartsAt
      rintro e w2 ⟨rfl, S2⟩
      go_wp2_with fail
      refine hK.out _ _ (gat S2) (fun h2 => ?_)
      clear hK K hHeld
      try simp only [Act.put, List.setIfInBounds_toArray, List.set_cons_zero, List.set_cons_succ]
      refine wpAnyH_ready (rs := [3, 7]) (by kernel_rfl) (by simp) ?_
      refine AllReadyH.cons rfl (fun K hK => ?_) (AllReadyH.cons rfl (fun K hK => ?_) AllReadyH.nil)
      · go_simp
        go_at_call 15
        refine (vStep_any (n := 13) S2 (fun w' h => Rd.lit (h.block 1 rfl).1) rfl (by unfold maxLen; omega) 9 fuel (hs := start_ok (x := 1) (by omega)) 0 0 (by omega) (by omega)).mono ?_
        unfold Stepped
        rintro e w3 ⟨rfl, S3⟩
        rw [HK1.out]
        go_wp2_with fail
        refine hK.out _ _ (gat S3) (fun h3 => ?_)
        clear hK K h2
        try simp only [Act.put, List.setIfInBounds_toArray, List.set_cons_zero, List.set_cons_succ]
        first
          | (refine wpAnyH_take (i := 4) (v := ?_) rfl (by kernel_rfl) (by kernel_rfl) (by kernel_rfl) (fun _ _ _ h => h) (Or.inl ⟨by rfl, ?_⟩) (by assumption) ?_
             rotate_left
             · (intro w hSw; (try dsimp only at hSw); first | (go_simp; done) | (go_simp; with_reducible rfl))
             (try simp only [Act.put, List.setIfInBounds_toArray, List.set_cons_zero, List.set_cons_succ]))
          | fail
        first
          | (refine wpAnyH_take (i := 5) (v := ?_) rfl (by kernel_rfl) (by kernel_rfl) (by kernel_rfl) (fun _ _ _ h => h) (Or.inl ⟨by rfl, ?_⟩) (by assumption) ?_
             rotate_left
             · (intro w hSw; (try dsimp only at hSw); first | (go_simp; done) | (go_simp; with_reducible rfl))
             (try simp only [Act.put, List.setIfInBounds_toArray, List.set_cons_zero, List.set_cons_succ]))
          | fail
        first
          | (refine wpAnyH_take (i := 6) (v := ?_) rfl (by kernel_rfl) (by kernel_rfl) (by kernel_rfl) (fun _ _ _ h => h) (Or.inl ⟨by rfl, ?_⟩) (by assumption) ?_
             rotate_left
             · (intro w hSw; (try dsimp only at hSw); first | (go_simp; done) | (go_simp; with_reducible rfl))
             (try simp only [Act.put, List.setIfInBounds_toArray, List.set_cons_zero, List.set_cons_succ]))
          | fail
        refine wpAnyH_ready (rs := [7]) (by kernel_rfl) (by simp) ?_
        refine AllReadyH.cons rfl (fun K hK => ?_) AllReadyH.nil
        go_simp
        have S4 := S3.alloc [.int .i64 0, .int .i32 0, .int .i32 0, .int .i32 0, .int .i32 0, .int .i32 0, .int .i32 0, .int .i32 0, .int .i32 0, .int .i32 0, .int .i32 0, .int .i32 0, .int .i32 0, .int .i32 0, .int .i32 0, .int .i32 0, .int .i32 0, .int .u32 0, .bool false, .int .i64 0] 28
        refine hK.out _ _ (gat S4.tail) (fun h4 => ?_)
        clear hK K h3
        try simp only [Act.put, List.setIfInBounds_toArray, List.set_cons_zero, List.set_cons_succ]
        refine wpAnyH_ready (rs := [8]) (by kernel_rfl) (by simp) ?_
        refine AllReadyH.cons rfl (fun K hK => ?_) AllReadyH.nil
        refine step_store_sat (off := 0) (n := 20) rfl 28 _ _ rfl S4 rfl rfl HL20.out (by decide) Try.sizeS (svals_one _) ?_
        intro w4 S5
        rw [zstore] at S5
        refine hK.out _ _ (gat S5.tail) (fun h5 => ?_)
        clear hK K h4
        try simp only [Act.put, List.setIfInBounds_toArray, List.set_cons_zero, List.set_cons_succ]
        first
          | (refine wpAnyH_take (i := 9) (v := ?_) rfl (by kernel_rfl) (by kernel_rfl) (by kernel_rfl) (fun _ _ _ h => h) (Or.inl ⟨by rfl, ?_⟩) (by assumption) ?_
             rotate_left
             · (intro w hSw; (try dsimp only at hSw); first | (go_simp; done) | (go_simp; with_reducible rfl))
             (try simp only [Act.put, List.setIfInBounds_toArray, List.set_cons_zero, List.set_cons_succ]))
          | fail
        refine wpAnyH_done (by kernel_rfl) ?_ _
        simp only [List.getElem_toArray, List.getElem_cons_zero, List.getElem_cons_succ, List.setIfInBounds_toArray, List.set_cons_zero, List.set_cons_succ]
        go_wp2_with fail
        go_meet
        exact ⟨_, rfl, rfl, S5⟩
      · go_simp
        have S4 := S2.alloc [.int .i64 0, .int .i32 0, .int .i32 0, .int .i32 0, .int .i32 0, .int .i32 0, .int .i32 0, .int .i32 0, .int .i32 0, .int .i32 0, .int .i32 0, .int .i32 0, .int .i32 0, .int .i32 0, .int .i32 0, .int .i32 0, .int .i32 0, .int .u32 0, .bool false, .int .i64 0] 28
        refine hK.out _ _ (gat S4.tail) (fun h3 => ?_)
        clear hK K h2
        try simp only [Act.put, List.setIfInBounds_toArray, List.set_cons_zero, List.set_cons_succ]
        refine wpAnyH_ready (rs := [3]) (by kernel_rfl) (by simp) ?_
        refine AllReadyH.cons rfl (fun K hK => ?_) AllReadyH.nil
        go_simp
        go_at_call 15
        refine (vStep_any (n := 13) S4 (fun w' h => Rd.lit (h.block 2 rfl).1) rfl (by unfold maxLen; omega) 9 fuel (hs := start_ok (x := 1) (by omega)) 0 0 (by omega) (by omega)).mono ?_
        unfold Stepped
        rintro e w3 ⟨rfl, S6⟩
        rw [HK1.out]
        go_wp2_with fail
        refine hK.out _ _ (gat S6.tail) (fun h4 => ?_)
        clear hK K h3
        try simp only [Act.put, List.setIfInBounds_toArray, List.set_cons_zero, List.set_cons_succ]
        first
          | (refine wpAnyH_take (i := 4) (v := ?_) rfl (by kernel_rfl) (by kernel_rfl) (by kernel_rfl) (fun _ _ _ h => h) (Or.inl ⟨by rfl, ?_⟩) (by assumption) ?_
             rotate_left
             · (intro w hSw; (try dsimp only at hSw); first | (go_simp; done) | (go_simp; with_reducible rfl))
             (try simp only [Act.put, List.setIfInBounds_toArray, List.set_cons_zero, List.set_cons_succ]))
          | fail
        first
          | (refine wpAnyH_take (i := 5) (v := ?_) rfl (by kernel_rfl) (by kernel_rfl) (by kernel_rfl) (fun _ _ _ h => h) (Or.inl ⟨by rfl, ?_⟩) (by assumption) ?_
             rotate_left
             · (intro w hSw; (try dsimp only at hSw); first | (go_simp; done) | (go_simp; with_reducible rfl))
             (try simp only [Act.put, List.setIfInBounds_toArray, List.set_cons_zero, List.set_cons_succ]))
          | fail
        first
          | (refine wpAnyH_take (i := 6) (v := ?_) rfl (by kernel_rfl) (by kernel_rfl) (by kernel_rfl) (fun _ _ _ h => h) (Or.inl ⟨by rfl, ?_⟩) (by assumption) ?_
             rotate_left
             · (intro w hSw; (try dsimp only at hSw); first | (go_simp; done) | (go_simp; with_reducible rfl))
             (try simp only [Act.put, List.setIfInBounds_toArray, List.set_cons_zero, List.set_cons_succ]))
          | fail
        refine wpAnyH_ready (rs := [8]) (by kernel_rfl) (by simp) ?_
        refine AllReadyH.cons rfl (fun K hK => ?_) AllReadyH.nil
        refine step_store_sat (off := 0) (n := 20) rfl 28 _ _ rfl S6 rfl rfl HL20.out (by decide) Try.sizeS (svals_one _) ?_
        intro w4 S5
        rw [zstore] at S5
        refine hK.out _ _ (gat S5.tail) (fun h5 => ?_)
        clear hK K h4
        try simp only [Act.put, List.setIfInBounds_toArray, List.set_cons_zero, List.set_cons_succ]
        first
          | (refine wpAnyH_take (i := 9) (v := ?_) rfl (by kernel_rfl) (by kernel_rfl) (by kernel_rfl) (fun _ _ _ h => h) (Or.inl ⟨by rfl, ?_⟩) (by assumption) ?_
             rotate_left
             · (intro w hSw; (try dsimp only at hSw); first | (go_simp; done) | (go_simp; with_reducible rfl))
             (try simp only [Act.put, List.setIfInBounds_toArray, List.set_cons_zero, List.set_cons_succ]))
          | fail
        refine wpAnyH_done (by kernel_rfl) ?_ _
        simp only [List.getElem_toArray, List.getElem_cons_zero, List.getElem_cons_succ, List.setIfInBounds_toArray, List.set_cons_zero, List.set_cons_succ]
        go_wp2_with fail
        go_meet
        exact ⟨_, rfl, rfl, S5⟩
    · go_simp
      have S4 := S1d.alloc [.int .i64 0, .int .i32 0, .int .i32 0, .int .i32 0, .int .i32 0, .int .i32 0, .int .i32 0, .int .i32 0, .int .i32 0, .int .i32 0, .int .i32 0, .int .i32 0, .int .i32 0, .int .i32 0, .int .i32 0, .int .i32 0, .int .i32 0, .int .u32 0, .bool false, .int .i64 0] 28
      refine hK.out _ _ (gat S4.tail) (fun h2 => ?_)
      clear hK K hHeld
      try simp only [Act.put, List.setIfInBounds_toArray, List.set_cons_zero, List.set_cons_succ]
      refine wpAnyH_ready (rs := [1]) (by kernel_rfl) (by simp) ?_
      refine AllReadyH.cons rfl (fun K hK => ?_) AllReadyH.nil
      go_simp
      go_at_call 20
      refine (vStart_any S4 1 (by omega)).mono ?_
      unfold StartsAt
      rintro e w2 ⟨rfl, S6⟩
      go_wp2_with fail
      refine hK.out _ _ (gat S6.tail) (fun h3 => ?_)
      clear hK K h2
      try simp only [Act.put, List.setIfInBounds_toArray, List.set_cons_zero, List.set_cons_succ]
      refine wpAnyH_ready (rs := [3]) (by kernel_rfl) (by simp) ?_
      refine AllReadyH.cons rfl (fun K hK => ?_) AllReadyH.nil
      go_simp
      go_at_call 15
      refine (vStep_any (n := 13) S6 (fun w' h => Rd.lit (h.block 2 rfl).1) rfl (by unfold maxLen; omega) 9 fuel (hs := start_ok (x := 1) (by omega)) 0 0 (by omega) (by omega)).mono ?_
      unfold Stepped
      rintro e w3 ⟨rfl, S7⟩
      rw [HK1.out]
      go_wp2_with fail
      refine hK.out _ _ (gat S7.tail) (fun h4 => ?_)
      clear hK K h3
      try simp only [Act.put, List.setIfInBounds_toArray, List.set_cons_zero, List.set_cons_succ]
      first
        | (refine wpAnyH_take (i := 4) (v := ?_) rfl (by kernel_rfl) (by kernel_rfl) (by kernel_rfl) (fun _ _ _ h => h) (Or.inl ⟨by rfl, ?_⟩) (by assumption) ?_
           rotate_left
           · (intro w hSw; (try dsimp only at hSw); first | (go_simp; done) | (go_simp; with_reducible rfl))
           (try simp only [Act.put, List.setIfInBounds_toArray, List.set_cons_zero, List.set_cons_succ]))
        | fail
      first
        | (refine wpAnyH_take (i := 5) (v := ?_) rfl (by kernel_rfl) (by kernel_rfl) (by kernel_rfl) (fun _ _ _ h => h) (Or.inl ⟨by rfl, ?_⟩) (by assumption) ?_
           rotate_left
           · (intro w hSw; (try dsimp only at hSw); first | (go_simp; done) | (go_simp; with_reducible rfl))
           (try simp only [Act.put, List.setIfInBounds_toArray, List.set_cons_zero, List.set_cons_succ]))
        | fail
      first
        | (refine wpAnyH_take (i := 6) (v := ?_) rfl (by kernel_rfl) (by kernel_rfl) (by kernel_rfl) (fun _ _ _ h => h) (Or.inl ⟨by rfl, ?_⟩) (by assumption) ?_
           rotate_left
           · (intro w hSw; (try dsimp only at hSw); first | (go_simp; done) | (go_simp; with_reducible rfl))
           (try simp only [Act.put, List.setIfInBounds_toArray, List.set_cons_zero, List.set_cons_succ]))
        | fail
      refine wpAnyH_ready (rs := [8]) (by kernel_rfl) (by simp) ?_
      refine AllReadyH.cons rfl (fun K hK => ?_) AllReadyH.nil
      refine step_store_sat (off := 0) (n := 20) rfl 28 _ _ rfl S7 rfl rfl HL20.out (by decide) Try.sizeS (svals_one _) ?_
      intro w4 S5
      rw [zstore] at S5
      refine hK.out _ _ (gat S5.tail) (fun h5 => ?_)
      clear hK K h4
      try simp only [Act.put, List.setIfInBounds_toArray, List.set_cons_zero, List.set_cons_succ]
      first
        | (refine wpAnyH_take (i := 9) (v := ?_) rfl (by kernel_rfl) (by kernel_rfl) (by kernel_rfl) (fun _ _ _ h => h) (Or.inl ⟨by rfl, ?_⟩) (by assumption) ?_
           rotate_left
           · (intro w hSw; (try dsimp only at hSw); first | (go_simp; done) | (go_simp; with_reducible rfl))
           (try simp only [Act.put, List.setIfInBounds_toArray, List.set_cons_zero, List.set_cons_succ]))
        | fail
      refine wpAnyH_done (by kernel_rfl) ?_ _
      simp only [List.getElem_toArray, List.getElem_cons_zero, List.getElem_cons_succ, List.setIfInBounds_toArray, List.set_cons_zero, List.set_cons_succ]
      go_wp2_with fail
      go_meet
      exact ⟨_, rfl, rfl, S5⟩
  case rest =>
    obtain ⟨y, rfl, rfl, S5⟩ := hcut
    have S6 := S5.alloc [.int .i64 0, .int .i32 0, .int .i32 0, .int .i32 0, .int .i32 0, .int .i32 0, .int .i32 0, .int .i32 0, .int .i32 0, .int .i32 0, .int .i32 0, .int .i32 0, .int .i32 0, .int .i32 0, .int .i32 0, .int .i32 0, .int .i32 0, .int .u32 0, .bool false, .int .i64 0] 28
    have HEQ := Lib.hid (fun w' => (run_eql_state (s := t) (t := t) w' HTL.out HTL.out).trans (by rw [decide_eq_true rfl]))
    by_cases hf : 2 + 11 * (N : Int) + 2 ≤ fuel
    · have hr' : (svals (lst 1 0 0)).set 7 (.int .i32 (3 * (N : Int))) = svals t := by rw [HW.out, HR.out, if_pos hf]
      have HRR := Lib.hid hr'
      clear hr'
      go_wp2_with (first
        | (refine wpList_load_guard rfl 28 _ rfl (n := 20) rfl (Sat.whole (S8.sel [1]) 20) HL20.out Try.underlying28 rfl Try.sizeS ?_)
        | (refine wpList_load_guard rfl 28 _ rfl (n := 20) rfl (Sat.whole S8 20) HL20.out Try.underlying28 rfl Try.sizeS ?_)
        | (refine wpList_eq_agg rfl .eql 28 _ _ rfl (r := true) rfl rfl (by kernel_rfl) (HEQ.out _) ?_)
        | (refine wpList_store_sat (news := svals (lst 1 0 0)) (off := 0) (n := 20) rfl 28 _ _ rfl S6 rfl rfl rfl (by decide) Try.sizeS (svals_one _) ?_; intro w7 S7; rw [zstore] at S7; have c7 : w7.cell? ⟨wc.heap.size, 7, none⟩ = some (.int .i32 0) := S7.cell 0 rfl 7; have f7 := S7.frozen 0 rfl 7; have S8 := S7.setCell 0 (k := 7) (v := .int .i32 (3 * (N : Int))) rfl; rw [HRR.out] at S8)
        | (go_at_call 19; refine (vknown_any S8).mono ?_; rintro e w6 ⟨rfl, S9⟩))
      go_ret
      exact ⟨rfl, S9.below⟩
    · have hr' : svals (lst 1 0 0) = svals t := by rw [HW.out, HR.out, if_neg hf]; rfl
      have HRR := Lib.hid hr'
      clear hr'
      go_wp2_with (first
        | (refine wpList_load_guard rfl 28 _ rfl (n := 20) rfl (Sat.whole (S8.sel [1]) 20) HL20.out Try.underlying28 rfl Try.sizeS ?_)
        | (refine wpList_load_guard rfl 28 _ rfl (n := 20) rfl (Sat.whole S8 20) HL20.out Try.underlying28 rfl Try.sizeS ?_)
        | (refine wpList_eq_agg rfl .eql 28 _ _ rfl (r := true) rfl rfl (by kernel_rfl) (HEQ.out _) ?_)
        | (refine wpList_store_sat (news := svals (lst 1 0 0)) (off := 0) (n := 20) rfl 28 _ _ rfl S6 rfl rfl rfl (by decide) Try.sizeS (svals_one _) ?_; intro w7 S8; rw [zstore, HRR.out] at S8)
        | (go_at_call 19; refine (vknown_any S8).mono ?_; rintro e w6 ⟨rfl, S9⟩))
      go_ret
      exact ⟨rfl, S9.below⟩
end Go.Proofs.Ytlkmkclohkbjeaa
