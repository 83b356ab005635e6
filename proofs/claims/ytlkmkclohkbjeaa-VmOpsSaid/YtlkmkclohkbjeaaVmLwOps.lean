/-
  The law VmOps, walked.
-/
import Derived.Test.YtlkmkclohkbjeaaVmK
import Derived.Test.YtlkmkclohkbjeaaVmG
import Derived.Test.YtlkmkclohkbjeaaVmL
import Derived.Test.YtlkmkclohkbjeaaVmR8
namespace Go.Proofs.Ytlkmkclohkbjeaa
open Go.RowKit Go.Sep Go.Vm
set_option linter.unusedSimpArgs false

def oend2 : VS := ⟨1, [0, 0, 0, 0, 0, 0, 0, 0, 0, 0, 0, 0, 0, 0, 0, 0], 1, false, 0⟩

set_option maxRecDepth 100000 in
set_option maxHeartbeats 3200000 in
theorem VmOps_walk {w : World} (op a b : Int) (ha : -2147483648 ≤ a ∧ a ≤ 2147483647) (hb : -2147483648 ≤ b ∧ b ≤ 2147483647) :
    Calls Try.prog 5 #[.int .i64 op, .int .i32 a, .int .i32 b] w fun e w' => e = .returned (.bool true) ∧ Below w.heap.size w w' := by
  have S0 := Sat.start w
  by_cases hn1 : op < 4
  · go_enter Try.func5, Try.ntmps5
    go_wp2_with (go_at_call 19; refine (vknown_any S0).mono ?_; rintro e w6 ⟨rfl, S6⟩)
    go_ret
    exact ⟨rfl, S6.below⟩
  by_cases hn2 : 11 < op
  · go_enter Try.func5, Try.ntmps5
    go_wp2_with (go_at_call 19; refine (vknown_any S0).mono ?_; rintro e w6 ⟨rfl, S6⟩)
    go_ret
    exact ⟨rfl, S6.below⟩
  have SA : Sat w (w.alloc (.cells #[.int .i64 1, .int .i64 b, .int .i64 1, .int .i64 a, .int .i64 op, .int .i64 0, .int .i64 3, .int .i64 5] 45)) (blk w.heap.size (insv (ocode op a b)) 45 :: []) := S0.alloc (insv (ocode op a b)) _
  have S1 := SA.alloc [.slice (some ⟨w.heap.size, 0, none⟩) 4 4, .int .i64 5, .int .i64 10] 24
  simp only [World.size_alloc] at S1
  obtain ⟨t, ht⟩ : ∃ t : VS, t = ⟨1, [0, 0, 0, 0, 0, op2 op b a, 0, 0, 0, 0, 0, 0, 0, 0, 0, 0], 1, false, 0⟩ := ⟨_, rfl⟩
  have hst := ostep (op := op) (a := a) (b := b) (by omega) ha hb
  rw [← ht] at hst
  have HK1 := Lib.hid hst
  have HL20 : Hid ((svals t).length = 20) := by show _ = _; rw [ht]; rfl
  have HT0 : Hid ((svals t)[0]? = some (.int .i64 1)) := by show _ = _; rw [ht]; rfl
  have HT6 : Hid ((svals t)[6]? = some (.int .i32 (op2 op b a))) := by show _ = _; rw [ht]; rfl
  have HK2 : Hid (stepP (ocode2 op a) 5 10 (VS.start 1) 0 0 = (oend2, 0)) := Lib.hid (ostep2 (by omega) ha)
  have HL2 : Hid ((svals oend2).length = 20) := rfl
  clear hst ht
  go_enter Try.func5, Try.ntmps5
  go_upto_region 4 with fail
  generalize (w.alloc (.cells #[.int .i64 1, .int .i64 b, .int .i64 1, .int .i64 a, .int .i64 op, .int .i64 0, .int .i64 3, .int .i64 5] 45)).alloc (.cells #[.slice (some ⟨w.heap.size, 0, none⟩) 4 4, .int .i64 5, .int .i64 10] 24) = w1 at S1 ⊢
  generalize w.heap.size = pc at S1 ⊢
  have S1d := S1.drew
  go_cut [8, 9] (fun v2 v3 wx => ∃ y, v2 = .pointer (some ⟨y, 0, none⟩) ∧ v3 = .int .i64 0 ∧ Sat w wx (blk y (svals t) 28 :: blk (pc + 1) [.slice (some ⟨pc, 0, none⟩) 4 4, .int .i64 5, .int .i64 10] 24 :: blk pc (insv (ocode op a b)) 45 :: []))
  case first =>
    refine wp_region_held_drew (S := fun w' => w'.cell? ⟨pc + 1, 0, none⟩ = some (.slice (some ⟨pc, 0, none⟩) 4 4) ∧ w'.cell? ⟨pc + 1, 1, none⟩ = some (.int .i64 5) ∧ w'.cell? ⟨pc + 1, 2, none⟩ = some (.int .i64 10)) (by kernel_rfl) (gat S1d) (fun hHeld => ?_)
    first
      | (refine wpAnyH_take (i := 0) (v := ?_) rfl (by kernel_rfl) (by kernel_rfl) (by kernel_rfl) (fun _ _ _ h => h) (Or.inl ⟨by rfl, ?_⟩) (by assumption) ?_
         rotate_left
         · (intro w hSw; (try dsimp only at hSw); first | (go_simp; done) | (go_simp; with_reducible rfl))
         (try simp only [Act.put, List.setIfInBounds_toArray, List.set_cons_zero, List.set_cons_succ]))
      | fail
    first
      | (refine wpAnyH_take (i := 2) (v := ?_) rfl (by kernel_rfl) (by kernel_rfl) (by kernel_rfl) (fun _ _ _ h => h) (Or.inl ⟨by rfl, ?_⟩) (by assumption) ?_
         rotate_left
         · (intro w hSw; (try dsimp only at hSw); first | (go_simp; done) | (go_simp; with_reducible rfl))
         (try simp only [Act.put, List.setIfInBounds_toArray, List.set_cons_zero, List.set_cons_succ]))
      | fail
    refine wpAnyH_ready (rs := [1, 7]) (by kernel_rfl) (by simp) ?_
    refine AllReadyH.cons rfl (fun K hK => ?_) (AllReadyH.cons rfl (fun K hK => ?_) AllReadyH.nil)
    · go_simp
      go_at_call 20
      refine (vStart_any S1d 1 (by omega)).mono ?_
      unfold StartsAt
      rintro e w2 ⟨rfl, S2⟩
      go_wp2_with fail
      refine hK.out _ _ (gat S2) (fun h2 => ?_)
      clear hK K hHeld
      try simp only [Act.put, List.setIfInBounds_toArray, List.set_cons_zero, List.set_cons_succ]
      refine wpAnyH_ready (rs := [3, 7]) (by kernel_rfl) (by simp) ?_
      refine AllReadyH.cons rfl (fun K hK => ?_) (AllReadyH.cons rfl (fun K hK => ?_) AllReadyH.nil)
      · go_simp
        go_at_call 15
        refine (vStep_any (n := 4) S2 (fun w' h => Rd.lit (h.block 1 rfl).1) rfl (by unfold maxLen; omega) 5 10 (hs := start_ok (x := 1) (by omega)) 0 0 (by omega) (by omega)).mono ?_
        unfold Stepped
        rintro e w3 ⟨rfl, S3⟩
        rw [HK1.out]
        go_wp2_with fail
        refine hK.out _ _ (gat S3) (fun h3 => ?_)
        clear hK K h2
        try simp only [Act.put, List.setIfInBounds_toArray, List.set_cons_zero, List.set_cons_succ]
        first
          | (refine wpAnyH_take (i := 4) (v := ?_) rfl (by kernel_rfl) (by kernel_rfl) (by kernel_rfl) (fun _ _ _ h => h) (Or.inl ⟨by rfl, ?_⟩) (by assumption) ?_
             rotate_left
             · (intro w hSw; (try dsimp only at hSw); first | (go_simp; done) | (go_simp; with_reducible rfl))
             (try simp only [Act.put, List.setIfInBounds_toArray, List.set_cons_zero, List.set_cons_succ]))
          | fail
        first
          | (refine wpAnyH_take (i := 5) (v := ?_) rfl (by kernel_rfl) (by kernel_rfl) (by kernel_rfl) (fun _ _ _ h => h) (Or.inl ⟨by rfl, ?_⟩) (by assumption) ?_
             rotate_left
             · (intro w hSw; (try dsimp only at hSw); first | (go_simp; done) | (go_simp; with_reducible rfl))
             (try simp only [Act.put, List.setIfInBounds_toArray, List.set_cons_zero, List.set_cons_succ]))
          | fail
        first
          | (refine wpAnyH_take (i := 6) (v := ?_) rfl (by kernel_rfl) (by kernel_rfl) (by kernel_rfl) (fun _ _ _ h => h) (Or.inl ⟨by rfl, ?_⟩) (by assumption) ?_
             rotate_left
             · (intro w hSw; (try dsimp only at hSw); first | (go_simp; done) | (go_simp; with_reducible rfl))
             (try simp only [Act.put, List.setIfInBounds_toArray, List.set_cons_zero, List.set_cons_succ]))
          | fail
        refine wpAnyH_ready (rs := [7]) (by kernel_rfl) (by simp) ?_
        refine AllReadyH.cons rfl (fun K hK => ?_) AllReadyH.nil
        go_simp
        have S4 := S3.alloc [.int .i64 0, .int .i32 0, .int .i32 0, .int .i32 0, .int .i32 0, .int .i32 0, .int .i32 0, .int .i32 0, .int .i32 0, .int .i32 0, .int .i32 0, .int .i32 0, .int .i32 0, .int .i32 0, .int .i32 0, .int .i32 0, .int .i32 0, .int .u32 0, .bool false, .int .i64 0] 28
        refine hK.out _ _ (gat S4.tail) (fun h4 => ?_)
        clear hK K h3
        try simp only [Act.put, List.setIfInBounds_toArray, List.set_cons_zero, List.set_cons_succ]
        refine wpAnyH_ready (rs := [8]) (by kernel_rfl) (by simp) ?_
        refine AllReadyH.cons rfl (fun K hK => ?_) AllReadyH.nil
        refine step_store_sat (off := 0) (n := 20) rfl 28 _ _ rfl S4 rfl rfl HL20.out (by decide) Try.sizeS (svals_one _) ?_
        intro w4 S5
        rw [zstore] at S5
        refine hK.out _ _ (gat S5.tail) (fun h5 => ?_)
        clear hK K h4
        try simp only [Act.put, List.setIfInBounds_toArray, List.set_cons_zero, List.set_cons_succ]
        first
          | (refine wpAnyH_take (i := 9) (v := ?_) rfl (by kernel_rfl) (by kernel_rfl) (by kernel_rfl) (fun _ _ _ h => h) (Or.inl ⟨by rfl, ?_⟩) (by assumption) ?_
             rotate_left
             · (intro w hSw; (try dsimp only at hSw); first | (go_simp; done) | (go_simp; with_reducible rfl))
             (try simp only [Act.put, List.setIfInBounds_toArray, List.set_cons_zero, List.set_cons_succ]))
          | fail
        refine wpAnyH_done (by kernel_rfl) ?_ _
        simp only [List.getElem_toArray, List.getElem_cons_zero, List.getElem_cons_succ, List.setIfInBounds_toArray, List.set_cons_zero, List.set_cons_succ]
        go_wp2_with fail
        go_meet
        exact ⟨_, rfl, rfl, S5⟩
      · go_simp
        have S4 := S2.alloc [.int .i64 0, .int .i32 0, .int .i32 0, .int .i32 0, .int .i32 0, .int .i32 0, .int .i32 0, .int .i32 0, .int .i32 0, .int .i32 0, .int .i32 0, .int .i32 0, .int .i32 0, .int .i32 0, .int .i32 0, .int .i32 0, .int .i32 0, .int .u32 0, .bool false, .int .i64 0] 28
        refine hK.out _ _ (gat S4.tail) (fun h3 => ?_)
        clear hK K h2
        try simp only [Act.put, List.setIfInBounds_toArray, List.set_cons_zero, List.set_cons_succ]
        refine wpAnyH_ready (rs := [3]) (by kernel_rfl) (by simp) ?_
        refine AllReadyH.cons rfl (fun K hK => ?_) AllReadyH.nil
        go_simp
        go_at_call 15
        refine (vStep_any (n := 4) S4 (fun w' h => Rd.lit (h.block 2 rfl).1) rfl (by unfold maxLen; omega) 5 10 (hs := start_ok (x := 1) (by omega)) 0 0 (by omega) (by omega)).mono ?_
        unfold Stepped
        rintro e w3 ⟨rfl, S6⟩
        rw [HK1.out]
        go_wp2_with fail
        refine hK.out _ _ (gat S6.tail) (fun h4 => ?_)
        clear hK K h3
        try simp only [Act.put, List.setIfInBounds_toArray, List.set_cons_zero, List.set_cons_succ]
        first
          | (refine wpAnyH_take (i := 4) (v := ?_) rfl (by kernel_rfl) (by kernel_rfl) (by kernel_rfl) (fun _ _ _ h => h) (Or.inl ⟨by rfl, ?_⟩) (by assumption) ?_
             rotate_left
             · (intro w hSw; (try dsimp only at hSw); first | (go_simp; done) | (go_simp; with_reducible rfl))
             (try simp only [Act.put, List.setIfInBounds_toArray, List.set_cons_zero, List.set_cons_succ]))
          | fail
        first
          | (refine wpAnyH_take (i := 5) (v := ?_) rfl (by kernel_rfl) (by kernel_rfl) (by kernel_rfl) (fun _ _ _ h => h) (Or.inl ⟨by rfl, ?_⟩) (by assumption) ?_
             rotate_left
             · (intro w hSw; (try dsimp only at hSw); first | (go_simp; done) | (go_simp; with_reducible rfl))
             (try simp only [Act.put, List.setIfInBounds_toArray, List.set_cons_zero, List.set_cons_succ]))
          | fail
        first
          | (refine wpAnyH_take (i := 6) (v := ?_) rfl (by kernel_rfl) (by kernel_rfl) (by kernel_rfl) (fun _ _ _ h => h) (Or.inl ⟨by rfl, ?_⟩) (by assumption) ?_
             rotate_left
             · (intro w hSw; (try dsimp only at hSw); first | (go_simp; done) | (go_simp; with_reducible rfl))
             (try simp only [Act.put, List.setIfInBounds_toArray, List.set_cons_zero, List.set_cons_succ]))
          | fail
        refine wpAnyH_ready (rs := [8]) (by kernel_rfl) (by simp) ?_
        refine AllReadyH.cons rfl (fun K hK => ?_) AllReadyH.nil
        refine step_store_sat (off := 0) (n := 20) rfl 28 _ _ rfl S6 rfl rfl HL20.out (by decide) Try.sizeS (svals_one _) ?_
        intro w4 S5
        rw [zstore] at S5
        refine hK.out _ _ (gat S5.tail) (fun h5 => ?_)
        clear hK K h4
        try simp only [Act.put, List.setIfInBounds_toArray, List.set_cons_zero, List.set_cons_succ]
        first
          | (refine wpAnyH_take (i := 9) (v := ?_) rfl (by kernel_rfl) (by kernel_rfl) (by kernel_rfl) (fun _ _ _ h => h) (Or.inl ⟨by rfl, ?_⟩) (by assumption) ?_
             rotate_left
             · (intro w hSw; (try dsimp only at hSw); first | (go_simp; done) | (go_simp; with_reducible rfl))
             (try simp only [Act.put, List.setIfInBounds_toArray, List.set_cons_zero, List.set_cons_succ]))
          | fail
        refine wpAnyH_done (by kernel_rfl) ?_ _
        simp only [List.getElem_toArray, List.getElem_cons_zero, List.getElem_cons_succ, List.setIfInBounds_toArray, List.set_cons_zero, List.set_cons_succ]
        go_wp2_with fail
        go_meet
        exact ⟨_, rfl, rfl, S5⟩
    · go_simp
      have S4 := S1d.alloc [.int .i64 0, .int .i32 0, .int .i32 0, .int .i32 0, .int .i32 0, .int .i32 0, .int .i32 0, .int .i32 0, .int .i32 0, .int .i32 0, .int .i32 0, .int .i32 0, .int .i32 0, .int .i32 0, .int .i32 0, .int .i32 0, .int .i32 0, .int .u32 0, .bool false, .int .i64 0] 28
      refine hK.out _ _ (gat S4.tail) (fun h2 => ?_)
      clear hK K hHeld
      try simp only [Act.put, List.setIfInBounds_toArray, List.set_cons_zero, List.set_cons_succ]
      refine wpAnyH_ready (rs := [1]) (by kernel_rfl) (by simp) ?_
      refine AllReadyH.cons rfl (fun K hK => ?_) AllReadyH.nil
      go_simp
      go_at_call 20
      refine (vStart_any S4 1 (by omega)).mono ?_
      unfold StartsAt
      rintro e w2 ⟨rfl, S6⟩
      go_wp2_with fail
      refine hK.out _ _ (gat S6.tail) (fun h3 => ?_)
      clear hK K h2
      try simp only [Act.put, List.setIfInBounds_toArray, List.set_cons_zero, List.set_cons_succ]
      refine wpAnyH_ready (rs := [3]) (by kernel_rfl) (by simp) ?_
      refine AllReadyH.cons rfl (fun K hK => ?_) AllReadyH.nil
      go_simp
      go_at_call 15
      refine (vStep_any (n := 4) S6 (fun w' h => Rd.lit (h.block 2 rfl).1) rfl (by unfold maxLen; omega) 5 10 (hs := start_ok (x := 1) (by omega)) 0 0 (by omega) (by omega)).mono ?_
      unfold Stepped
      rintro e w3 ⟨rfl, S7⟩
      rw [HK1.out]
      go_wp2_with fail
      refine hK.out _ _ (gat S7.tail) (fun h4 => ?_)
      clear hK K h3
      try simp only [Act.put, List.setIfInBounds_toArray, List.set_cons_zero, List.set_cons_succ]
      first
        | (refine wpAnyH_take (i := 4) (v := ?_) rfl (by kernel_rfl) (by kernel_rfl) (by kernel_rfl) (fun _ _ _ h => h) (Or.inl ⟨by rfl, ?_⟩) (by assumption) ?_
           rotate_left
           · (intro w hSw; (try dsimp only at hSw); first | (go_simp; done) | (go_simp; with_reducible rfl))
           (try simp only [Act.put, List.setIfInBounds_toArray, List.set_cons_zero, List.set_cons_succ]))
        | fail
      first
        | (refine wpAnyH_take (i := 5) (v := ?_) rfl (by kernel_rfl) (by kernel_rfl) (by kernel_rfl) (fun _ _ _ h => h) (Or.inl ⟨by rfl, ?_⟩) (by assumption) ?_
           rotate_left
           · (intro w hSw; (try dsimp only at hSw); first | (go_simp; done) | (go_simp; with_reducible rfl))
           (try simp only [Act.put, List.setIfInBounds_toArray, List.set_cons_zero, List.set_cons_succ]))
        | fail
      first
        | (refine wpAnyH_take (i := 6) (v := ?_) rfl (by kernel_rfl) (by kernel_rfl) (by kernel_rfl) (fun _ _ _ h => h) (Or.inl ⟨by rfl, ?_⟩) (by assumption) ?_
           rotate_left
           · (intro w hSw; (try dsimp only at hSw); first | (go_simp; done) | (go_simp; with_reducible rfl))
           (try simp only [Act.put, List.setIfInBounds_toArray, List.set_cons_zero, List.set_cons_succ]))
        | fail
      refine wpAnyH_ready (rs := [8]) (by kernel_rfl) (by simp) ?_
      refine AllReadyH.cons rfl (fun K hK => ?_) AllReadyH.nil
      refine step_store_sat (off := 0) (n := 20) rfl 28 _ _ rfl S7 rfl rfl HL20.out (by decide) Try.sizeS (svals_one _) ?_
      intro w4 S5
      rw [zstore] at S5
      refine hK.out _ _ (gat S5.tail) (fun h5 => ?_)
      clear hK K h4
      try simp only [Act.put, List.setIfInBounds_toArray, List.set_cons_zero, List.set_cons_succ]
      first
        | (refine wpAnyH_take (i := 9) (v := ?_) rfl (by kernel_rfl) (by kernel_rfl) (by kernel_rfl) (fun _ _ _ h => h) (Or.inl ⟨by rfl, ?_⟩) (by assumption) ?_
           rotate_left
           · (intro w hSw; (try dsimp only at hSw); first | (go_simp; done) | (go_simp; with_reducible rfl))
           (try simp only [Act.put, List.setIfInBounds_toArray, List.set_cons_zero, List.set_cons_succ]))
        | fail
      refine wpAnyH_done (by kernel_rfl) ?_ _
      simp only [List.getElem_toArray, List.getElem_cons_zero, List.getElem_cons_succ, List.setIfInBounds_toArray, List.set_cons_zero, List.set_cons_succ]
      go_wp2_with fail
      go_meet
      exact ⟨_, rfl, rfl, S5⟩
  case rest =>
    obtain ⟨y, rfl, rfl, S5⟩ := hcut
    go_upto_block 0 with fail
    go_cut [10] (fun v wx => v = .int .i32 (op2 op b a) ∧ wx = wc)
    case first =>
      have hc : op = 4 ∨ op = 5 ∨ op = 6 ∨ op = 7 ∨ op = 8 ∨ op = 9 ∨ op = 10 ∨ op = 11 := by omega
      rcases hc with rfl | rfl | rfl | rfl | rfl | rfl | rfl | rfl
      · go_wp2_with (go_at_call 22; refine (r8add_any _ b a hb ha).mono ?_; rintro e w1 ⟨rfl, rfl⟩)
        go_meet
        exact ⟨rfl, rfl⟩
      · go_wp2_with (go_at_call 23; refine (r8sub_any _ b a hb ha).mono ?_; rintro e w1 ⟨rfl, rfl⟩)
        go_meet
        exact ⟨rfl, rfl⟩
      · go_wp2_with (go_at_call 24; refine (r8mul_any _ b a hb ha).mono ?_; rintro e w1 ⟨rfl, rfl⟩)
        go_meet
        exact ⟨rfl, rfl⟩
      · go_wp2_with (go_at_call 25; refine (r8div_any _ b a hb ha).mono ?_; rintro e w1 ⟨rfl, rfl⟩)
        go_meet
        exact ⟨rfl, rfl⟩
      · go_wp2_with fail
        all_goals
          go_meet
          exact ⟨by show _ = Value.int .i32 (min b a); congr 1; omega, rfl⟩
      · go_wp2_with fail
        all_goals
          go_meet
          exact ⟨by show _ = Value.int .i32 (max b a); congr 1; omega, rfl⟩
      · by_cases hlt : b < a
        · go_wp2_with fail
          go_meet
          exact ⟨by show _ = Value.int .i32 (truth (decide (b < a))); rw [decide_eq_true hlt]; rfl, rfl⟩
        · go_wp2_with fail
          go_meet
          exact ⟨by show _ = Value.int .i32 (truth (decide (b < a))); rw [decide_eq_false (by omega)]; rfl, rfl⟩
      · by_cases heq : b = a
        · subst heq
          have hz : (b == b) = true := by simp
          go_wp2_with fail
          go_meet
          exact ⟨by show _ = Value.int .i32 (truth (decide (b = b))); rw [decide_eq_true rfl]; rfl, rfl⟩
        · have hz : (b == a) = false := by simpa using heq
          go_wp2_with fail
          go_meet
          exact ⟨by show _ = Value.int .i32 (truth (decide (b = a))); rw [decide_eq_false heq]; rfl, rfl⟩
    case rest =>
      obtain ⟨rfl, rfl⟩ := hcut
      obtain ⟨g0, g1, g2⟩ := gat S5.tail
      have f0 := S5.frozen 1 rfl 0
      have S6 := (S5.sel [1]).setCell 0 (k := 0) (v := .slice (some ⟨pc, 2, none⟩) 3 3) rfl
      go_upto_region 25 with fail
      have S7 : Sat w (wc.setCell ⟨pc + 1, 0, none⟩ (.slice (some ⟨pc, 2, none⟩) 3 3)) (blk (pc + 1) [.slice (some ⟨pc, 2, none⟩) 3 3, .int .i64 5, .int .i64 10] 24 :: blk y (svals t) 28 :: blk pc (insv (ocode op a b)) 45 :: []) := S6
      clear S6 S5 g0 g1 g2 f0
      generalize wc.setCell ⟨pc + 1, 0, none⟩ (.slice (some ⟨pc, 2, none⟩) 3 3) = w2 at S7 ⊢
      have S1d : Sat w w2.drew (blk (pc + 1) [.slice (some ⟨pc, 2, none⟩) 3 3, .int .i64 5, .int .i64 10] 24 :: blk pc (insv (ocode op a b)) 45 :: blk y (svals t) 28 :: []) := S7.drew.sel [0, 1]
      go_cut [11, 12] (fun v2 v3 wx => ∃ y2, v2 = .pointer (some ⟨y2, 0, none⟩) ∧ v3 = .int .i64 0 ∧ Sat w wx (blk y2 (svals oend2) 28 :: blk (pc + 1) [.slice (some ⟨pc, 2, none⟩) 3 3, .int .i64 5, .int .i64 10] 24 :: blk pc (insv (ocode op a b)) 45 :: blk y (svals t) 28 :: []))
      case first =>
        refine wp_region_held_drew (S := fun w' => w'.cell? ⟨pc + 1, 0, none⟩ = some (.slice (some ⟨pc, 2, none⟩) 3 3) ∧ w'.cell? ⟨pc + 1, 1, none⟩ = some (.int .i64 5) ∧ w'.cell? ⟨pc + 1, 2, none⟩ = some (.int .i64 10)) (by kernel_rfl) (gat S1d) (fun hHeld => ?_)
        first
          | (refine wpAnyH_take (i := 0) (v := ?_) rfl (by kernel_rfl) (by kernel_rfl) (by kernel_rfl) (fun _ _ _ h => h) (Or.inl ⟨by rfl, ?_⟩) (by assumption) ?_
             rotate_left
             · (intro w hSw; (try dsimp only at hSw); first | (go_simp; done) | (go_simp; with_reducible rfl))
             (try simp only [Act.put, List.setIfInBounds_toArray, List.set_cons_zero, List.set_cons_succ]))
          | fail
        first
          | (refine wpAnyH_take (i := 2) (v := ?_) rfl (by kernel_rfl) (by kernel_rfl) (by kernel_rfl) (fun _ _ _ h => h) (Or.inl ⟨by rfl, ?_⟩) (by assumption) ?_
             rotate_left
             · (intro w hSw; (try dsimp only at hSw); first | (go_simp; done) | (go_simp; with_reducible rfl))
             (try simp only [Act.put, List.setIfInBounds_toArray, List.set_cons_zero, List.set_cons_succ]))
          | fail
        refine wpAnyH_ready (rs := [1, 7]) (by kernel_rfl) (by simp) ?_
        refine AllReadyH.cons rfl (fun K hK => ?_) (AllReadyH.cons rfl (fun K hK => ?_) AllReadyH.nil)
        · go_simp
          go_at_call 20
          refine (vStart_any S1d 1 (by omega)).mono ?_
          unfold StartsAt
          rintro e w2 ⟨rfl, S2⟩
          go_wp2_with fail
          refine hK.out _ _ (gat S2) (fun h2 => ?_)
          clear hK K hHeld
          try simp only [Act.put, List.setIfInBounds_toArray, List.set_cons_zero, List.set_cons_succ]
          refine wpAnyH_ready (rs := [3, 7]) (by kernel_rfl) (by simp) ?_
          refine AllReadyH.cons rfl (fun K hK => ?_) (AllReadyH.cons rfl (fun K hK => ?_) AllReadyH.nil)
          · go_simp
            go_at_call 15
            refine (vStep_any (n := 3) S2 (code := ocode2 op a) (fun w' h => (Rd.lit (h.block 1 rfl).1).drop 2) rfl (by unfold maxLen; omega) 5 10 (hs := start_ok (x := 1) (by omega)) 0 0 (by omega) (by omega)).mono ?_
            unfold Stepped
            rintro e w3 ⟨rfl, S3⟩
            rw [HK2.out]
            go_wp2_with fail
            refine hK.out _ _ (gat S3) (fun h3 => ?_)
            clear hK K h2
            try simp only [Act.put, List.setIfInBounds_toArray, List.set_cons_zero, List.set_cons_succ]
            first
              | (refine wpAnyH_take (i := 4) (v := ?_) rfl (by kernel_rfl) (by kernel_rfl) (by kernel_rfl) (fun _ _ _ h => h) (Or.inl ⟨by rfl, ?_⟩) (by assumption) ?_
                 rotate_left
                 · (intro w hSw; (try dsimp only at hSw); first | (go_simp; done) | (go_simp; with_reducible rfl))
                 (try simp only [Act.put, List.setIfInBounds_toArray, List.set_cons_zero, List.set_cons_succ]))
              | fail
            first
              | (refine wpAnyH_take (i := 5) (v := ?_) rfl (by kernel_rfl) (by kernel_rfl) (by kernel_rfl) (fun _ _ _ h => h) (Or.inl ⟨by rfl, ?_⟩) (by assumption) ?_
                 rotate_left
                 · (intro w hSw; (try dsimp only at hSw); first | (go_simp; done) | (go_simp; with_reducible rfl))
                 (try simp only [Act.put, List.setIfInBounds_toArray, List.set_cons_zero, List.set_cons_succ]))
              | fail
            first
              | (refine wpAnyH_take (i := 6) (v := ?_) rfl (by kernel_rfl) (by kernel_rfl) (by kernel_rfl) (fun _ _ _ h => h) (Or.inl ⟨by rfl, ?_⟩) (by assumption) ?_
                 rotate_left
                 · (intro w hSw; (try dsimp only at hSw); first | (go_simp; done) | (go_simp; with_reducible rfl))
                 (try simp only [Act.put, List.setIfInBounds_toArray, List.set_cons_zero, List.set_cons_succ]))
              | fail
            refine wpAnyH_ready (rs := [7]) (by kernel_rfl) (by simp) ?_
            refine AllReadyH.cons rfl (fun K hK => ?_) AllReadyH.nil
            go_simp
            have S4 := S3.alloc [.int .i64 0, .int .i32 0, .int .i32 0, .int .i32 0, .int .i32 0, .int .i32 0, .int .i32 0, .int .i32 0, .int .i32 0, .int .i32 0, .int .i32 0, .int .i32 0, .int .i32 0, .int .i32 0, .int .i32 0, .int .i32 0, .int .i32 0, .int .u32 0, .bool false, .int .i64 0] 28
            refine hK.out _ _ (gat S4.tail) (fun h4 => ?_)
            clear hK K h3
            try simp only [Act.put, List.setIfInBounds_toArray, List.set_cons_zero, List.set_cons_succ]
            refine wpAnyH_ready (rs := [8]) (by kernel_rfl) (by simp) ?_
            refine AllReadyH.cons rfl (fun K hK => ?_) AllReadyH.nil
            refine step_store_sat (off := 0) (n := 20) rfl 28 _ _ rfl S4 rfl rfl HL2.out (by decide) Try.sizeS (svals_one _) ?_
            intro w4 S5
            rw [zstore] at S5
            refine hK.out _ _ (gat S5.tail) (fun h5 => ?_)
            clear hK K h4
            try simp only [Act.put, List.setIfInBounds_toArray, List.set_cons_zero, List.set_cons_succ]
            first
              | (refine wpAnyH_take (i := 9) (v := ?_) rfl (by kernel_rfl) (by kernel_rfl) (by kernel_rfl) (fun _ _ _ h => h) (Or.inl ⟨by rfl, ?_⟩) (by assumption) ?_
                 rotate_left
                 · (intro w hSw; (try dsimp only at hSw); first | (go_simp; done) | (go_simp; with_reducible rfl))
                 (try simp only [Act.put, List.setIfInBounds_toArray, List.set_cons_zero, List.set_cons_succ]))
              | fail
            refine wpAnyH_done (by kernel_rfl) ?_ _
            simp only [List.getElem_toArray, List.getElem_cons_zero, List.getElem_cons_succ, List.setIfInBounds_toArray, List.set_cons_zero, List.set_cons_succ]
            go_wp2_with fail
            go_meet
            exact ⟨_, rfl, rfl, S5⟩
          · go_simp
            have S4 := S2.alloc [.int .i64 0, .int .i32 0, .int .i32 0, .int .i32 0, .int .i32 0, .int .i32 0, .int .i32 0, .int .i32 0, .int .i32 0, .int .i32 0, .int .i32 0, .int .i32 0, .int .i32 0, .int .i32 0, .int .i32 0, .int .i32 0, .int .i32 0, .int .u32 0, .bool false, .int .i64 0] 28
            refine hK.out _ _ (gat S4.tail) (fun h3 => ?_)
            clear hK K h2
            try simp only [Act.put, List.setIfInBounds_toArray, List.set_cons_zero, List.set_cons_succ]
            refine wpAnyH_ready (rs := [3]) (by kernel_rfl) (by simp) ?_
            refine AllReadyH.cons rfl (fun K hK => ?_) AllReadyH.nil
            go_simp
            go_at_call 15
            refine (vStep_any (n := 3) S4 (code := ocode2 op a) (fun w' h => (Rd.lit (h.block 2 rfl).1).drop 2) rfl (by unfold maxLen; omega) 5 10 (hs := start_ok (x := 1) (by omega)) 0 0 (by omega) (by omega)).mono ?_
            unfold Stepped
            rintro e w3 ⟨rfl, S6⟩
            rw [HK2.out]
            go_wp2_with fail
            refine hK.out _ _ (gat S6.tail) (fun h4 => ?_)
            clear hK K h3
            try simp only [Act.put, List.setIfInBounds_toArray, List.set_cons_zero, List.set_cons_succ]
            first
              | (refine wpAnyH_take (i := 4) (v := ?_) rfl (by kernel_rfl) (by kernel_rfl) (by kernel_rfl) (fun _ _ _ h => h) (Or.inl ⟨by rfl, ?_⟩) (by assumption) ?_
                 rotate_left
                 · (intro w hSw; (try dsimp only at hSw); first | (go_simp; done) | (go_simp; with_reducible rfl))
                 (try simp only [Act.put, List.setIfInBounds_toArray, List.set_cons_zero, List.set_cons_succ]))
              | fail
            first
              | (refine wpAnyH_take (i := 5) (v := ?_) rfl (by kernel_rfl) (by kernel_rfl) (by kernel_rfl) (fun _ _ _ h => h) (Or.inl ⟨by rfl, ?_⟩) (by assumption) ?_
                 rotate_left
                 · (intro w hSw; (try dsimp only at hSw); first | (go_simp; done) | (go_simp; with_reducible rfl))
                 (try simp only [Act.put, List.setIfInBounds_toArray, List.set_cons_zero, List.set_cons_succ]))
              | fail
            first
              | (refine wpAnyH_take (i := 6) (v := ?_) rfl (by kernel_rfl) (by kernel_rfl) (by kernel_rfl) (fun _ _ _ h => h) (Or.inl ⟨by rfl, ?_⟩) (by assumption) ?_
                 rotate_left
                 · (intro w hSw; (try dsimp only at hSw); first | (go_simp; done) | (go_simp; with_reducible rfl))
                 (try simp only [Act.put, List.setIfInBounds_toArray, List.set_cons_zero, List.set_cons_succ]))
              | fail
            refine wpAnyH_ready (rs := [8]) (by kernel_rfl) (by simp) ?_
            refine AllReadyH.cons rfl (fun K hK => ?_) AllReadyH.nil
            refine step_store_sat (off := 0) (n := 20) rfl 28 _ _ rfl S6 rfl rfl HL2.out (by decide) Try.sizeS (svals_one _) ?_
            intro w4 S5
            rw [zstore] at S5
            refine hK.out _ _ (gat S5.tail) (fun h5 => ?_)
            clear hK K h4
            try simp only [Act.put, List.setIfInBounds_toArray, List.set_cons_zero, List.set_cons_succ]
            first
              | (refine wpAnyH_take (i := 9) (v := ?_) rfl (by kernel_rfl) (by kernel_rfl) (by kernel_rfl) (fun _ _ _ h => h) (Or.inl ⟨by rfl, ?_⟩) (by assumption) ?_
                 rotate_left
                 · (intro w hSw; (try dsimp only at hSw); first | (go_simp; done) | (go_simp; with_reducible rfl))
                 (try simp only [Act.put, List.setIfInBounds_toArray, List.set_cons_zero, List.set_cons_succ]))
              | fail
            refine wpAnyH_done (by kernel_rfl) ?_ _
            simp only [List.getElem_toArray, List.getElem_cons_zero, List.getElem_cons_succ, List.setIfInBounds_toArray, List.set_cons_zero, List.set_cons_succ]
            go_wp2_with fail
            go_meet
            exact ⟨_, rfl, rfl, S5⟩
        · go_simp
          have S4 := S1d.alloc [.int .i64 0, .int .i32 0, .int .i32 0, .int .i32 0, .int .i32 0, .int .i32 0, .int .i32 0, .int .i32 0, .int .i32 0, .int .i32 0, .int .i32 0, .int .i32 0, .int .i32 0, .int .i32 0, .int .i32 0, .int .i32 0, .int .i32 0, .int .u32 0, .bool false, .int .i64 0] 28
          refine hK.out _ _ (gat S4.tail) (fun h2 => ?_)
          clear hK K hHeld
          try simp only [Act.put, List.setIfInBounds_toArray, List.set_cons_zero, List.set_cons_succ]
          refine wpAnyH_ready (rs := [1]) (by kernel_rfl) (by simp) ?_
          refine AllReadyH.cons rfl (fun K hK => ?_) AllReadyH.nil
          go_simp
          go_at_call 20
          refine (vStart_any S4 1 (by omega)).mono ?_
          unfold StartsAt
          rintro e w2 ⟨rfl, S6⟩
          go_wp2_with fail
          refine hK.out _ _ (gat S6.tail) (fun h3 => ?_)
          clear hK K h2
          try simp only [Act.put, List.setIfInBounds_toArray, List.set_cons_zero, List.set_cons_succ]
          refine wpAnyH_ready (rs := [3]) (by kernel_rfl) (by simp) ?_
          refine AllReadyH.cons rfl (fun K hK => ?_) AllReadyH.nil
          go_simp
          go_at_call 15
          refine (vStep_any (n := 3) S6 (code := ocode2 op a) (fun w' h => (Rd.lit (h.block 2 rfl).1).drop 2) rfl (by unfold maxLen; omega) 5 10 (hs := start_ok (x := 1) (by omega)) 0 0 (by omega) (by omega)).mono ?_
          unfold Stepped
          rintro e w3 ⟨rfl, S7⟩
          rw [HK2.out]
          go_wp2_with fail
          refine hK.out _ _ (gat S7.tail) (fun h4 => ?_)
          clear hK K h3
          try simp only [Act.put, List.setIfInBounds_toArray, List.set_cons_zero, List.set_cons_succ]
          first
            | (refine wpAnyH_take (i := 4) (v := ?_) rfl (by kernel_rfl) (by kernel_rfl) (by kernel_rfl) (fun _ _ _ h => h) (Or.inl ⟨by rfl, ?_⟩) (by assumption) ?_
               rotate_left
               · (intro w hSw; (try dsimp only at hSw); first | (go_simp; done) | (go_simp; with_reducible rfl))
               (try simp only [Act.put, List.setIfInBounds_toArray, List.set_cons_zero, List.set_cons_succ]))
            | fail
          first
            | (refine wpAnyH_take (i := 5) (v := ?_) rfl (by kernel_rfl) (by kernel_rfl) (by kernel_rfl) (fun _ _ _ h => h) (Or.inl ⟨by rfl, ?_⟩) (by assumption) ?_
               rotate_left
               · (intro w hSw; (try dsimp only at hSw); first | (go_simp; done) | (go_simp; with_reducible rfl))
               (try simp only [Act.put, List.setIfInBounds_toArray, List.set_cons_zero, List.set_cons_succ]))
            | fail
          first
            | (refine wpAnyH_take (i := 6) (v := ?_) rfl (by kernel_rfl) (by kernel_rfl) (by kernel_rfl) (fun _ _ _ h => h) (Or.inl ⟨by rfl, ?_⟩) (by assumption) ?_
               rotate_left
               · (intro w hSw; (try dsimp only at hSw); first | (go_simp; done) | (go_simp; with_reducible rfl))
               (try simp only [Act.put, List.setIfInBounds_toArray, List.set_cons_zero, List.set_cons_succ]))
            | fail
          refine wpAnyH_ready (rs := [8]) (by kernel_rfl) (by simp) ?_
          refine AllReadyH.cons rfl (fun K hK => ?_) AllReadyH.nil
          refine step_store_sat (off := 0) (n := 20) rfl 28 _ _ rfl S7 rfl rfl HL2.out (by decide) Try.sizeS (svals_one _) ?_
          intro w4 S5
          rw [zstore] at S5
          refine hK.out _ _ (gat S5.tail) (fun h5 => ?_)
          clear hK K h4
          try simp only [Act.put, List.setIfInBounds_toArray, List.set_cons_zero, List.set_cons_succ]
          first
            | (refine wpAnyH_take (i := 9) (v := ?_) rfl (by kernel_rfl) (by kernel_rfl) (by kernel_rfl) (fun _ _ _ h => h) (Or.inl ⟨by rfl, ?_⟩) (by assumption) ?_
               rotate_left
               · (intro w hSw; (try dsimp only at hSw); first | (go_simp; done) | (go_simp; with_reducible rfl))
               (try simp only [Act.put, List.setIfInBounds_toArray, List.set_cons_zero, List.set_cons_succ]))
            | fail
          refine wpAnyH_done (by kernel_rfl) ?_ _
          simp only [List.getElem_toArray, List.getElem_cons_zero, List.getElem_cons_succ, List.setIfInBounds_toArray, List.set_cons_zero, List.set_cons_succ]
          go_wp2_with fail
          go_meet
          exact ⟨_, rfl, rfl, S5⟩
      case rest =>
        obtain ⟨y2, rfl, rfl, S8⟩ := hcut
        have HEQ := Lib.hid (fun w' => (run_eql_state (s := oend2) (t := oend2) w' rfl rfl).trans (by rw [decide_eq_true rfl]))
        have e0 : wc.cell? ⟨y, 0, none⟩ = some (.int .i64 1) := (S8.cell 3 rfl 0).trans HT0.out
        have e6 : wc.cell? ⟨y, 6, none⟩ = some (.int .i32 (op2 op b a)) := (S8.cell 3 rfl 6).trans HT6.out
        have hself : (op2 op b a == op2 op b a) = true := by simp
        go_wp2_with (first
          | (refine wpList_load_guard rfl 28 _ rfl (n := 20) rfl (Sat.whole S8 20) rfl Try.underlying28 rfl Try.sizeS ?_)
          | (refine wpList_eq_agg rfl .eql 28 _ _ rfl (r := true) rfl rfl (by kernel_rfl) (HEQ.out _) ?_)
          | (go_at_call 19; refine (vknown_any S8).mono ?_; rintro e w6 ⟨rfl, S9⟩))
        go_ret
        exact ⟨rfl, S9.below⟩
end Go.Proofs.Ytlkmkclohkbjeaa
