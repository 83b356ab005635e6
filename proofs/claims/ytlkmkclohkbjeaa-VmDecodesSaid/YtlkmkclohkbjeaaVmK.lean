/-
  vm: the law's known; the pattern of its calls.
-/
import Derived.Test.YtlkmkclohkbjeaaVmK0
namespace Go.Proofs.Ytlkmkclohkbjeaa
open Go.RowKit Go.Sep Go.Vm
set_option linter.unusedSimpArgs false

def kcode : List (Int × Int) := [(2, 0), (16, 0), (4, 0), (3, 0)]
def k1 : VS := ⟨1, [3, 0, 0, 0, 0, 0, 0, 0, 0, 0, 0, 0, 0, 0, 0, 0], 1, false, 0⟩
def k2 : VS := ⟨2, [6, 0, 0, 0, 0, 0, 0, 0, 0, 0, 0, 0, 0, 0, 0, 0], 1, false, 0⟩
theorem kstep1 : stepP kcode 9 9 (VS.start 1) 3 0 = (k1, 0) := by decide +kernel
theorem kstep2 : stepP kcode 9 9 k1 3 0 = (k2, 0) := by decide +kernel
theorem k1_ok : k1.Ok := by
  refine ⟨rfl, ?_, ?_, ?_, ?_⟩ <;> decide +kernel
theorem k2_ok : k2.Ok := by
  refine ⟨rfl, ?_, ?_, ?_, ?_⟩ <;> decide +kernel

set_option maxRecDepth 100000 in
set_option maxHeartbeats 3200000 in
theorem vknown_any {W0 w : World} {L : List Asn} (S : Sat W0 w L) :
    Calls Try.prog 19 #[] w fun e w' => e = .returned (.bool true) ∧ Sat W0 w' L := by
  have SA : Sat W0 (w.alloc (.cells #[.int .i64 2, .int .i64 0, .int .i64 16, .int .i64 0, .int .i64 4, .int .i64 0, .int .i64 3, .int .i64 0] 45)) (blk w.heap.size (insv kcode) 45 :: L) := S.alloc (insv kcode) _
  have S1 := SA.alloc [.slice (some ⟨w.heap.size, 0, none⟩) 4 4, .int .i64 9, .int .i64 9] 24
  simp only [World.size_alloc] at S1
  go_enter Try.func19, Try.ntmps19
  go_upto_region 2 with fail
  generalize (w.alloc (.cells #[.int .i64 2, .int .i64 0, .int .i64 16, .int .i64 0, .int .i64 4, .int .i64 0, .int .i64 3, .int .i64 0] 45)).alloc (.cells #[.slice (some ⟨w.heap.size, 0, none⟩) 4 4, .int .i64 9, .int .i64 9] 24) = w1 at S1 ⊢
  generalize w.heap.size = pc at S1 ⊢
  have HK1 := Lib.hid kstep1
  have HL20 : Hid ((svals k1).length = 20) := rfl
  have S1d := S1.drew
  go_cut [2, 3] (fun v2 v3 wx => ∃ y, v2 = .pointer (some ⟨y, 0, none⟩) ∧ v3 = .int .i64 0 ∧ Sat W0 wx (blk y (svals k1) 28 :: blk (pc + 1) [.slice (some ⟨pc, 0, none⟩) 4 4, .int .i64 9, .int .i64 9] 24 :: blk pc (insv kcode) 45 :: L))
  case first =>
    refine wp_region_held_drew (S := fun w' => w'.cell? ⟨pc + 1, 0, none⟩ = some (.slice (some ⟨pc, 0, none⟩) 4 4) ∧ w'.cell? ⟨pc + 1, 1, none⟩ = some (.int .i64 9) ∧ w'.cell? ⟨pc + 1, 2, none⟩ = some (.int .i64 9)) (by kernel_rfl) (gat S1d) (fun hHeld => ?_)
    first
      | (refine wpAnyH_take (i := 0) (v := ?_) rfl (by kernel_rfl) (by kernel_rfl) (by kernel_rfl) (fun _ _ _ h => h) (Or.inl ⟨by rfl, ?_⟩) (by assumption) ?_
         rotate_left
         · (intro w hSw; (try dsimp only at hSw); first | (go_simp; done) | (go_simp; with_reducible rfl))
         (try simp only [Act.put, List.setIfInBounds_toArray, List.set_cons_zero, List.set_cons_succ]))
      | fail
    first
      | (refine wpAnyH_take (i := 2) (v := ?_) rfl (by kernel_rfl) (by kernel_rfl) (by kernel_rfl) (fun _ _ _ h => h) (Or.inl ⟨by rfl, ?_⟩) (by assumption) ?_
         rotate_left
         · (intro w hSw; (try dsimp only at hSw); first | (go_simp; done) | (go_simp; with_reducible rfl))
         (try simp only [Act.put, List.setIfInBounds_toArray, List.set_cons_zero, List.set_cons_succ]))
      | fail
    refine wpAnyH_ready (rs := [1, 7]) (by kernel_rfl) (by simp) ?_
    refine AllReadyH.cons rfl (fun K hK => ?_) (AllReadyH.cons rfl (fun K hK => ?_) AllReadyH.nil)
    · go_simp
      go_at_call 20
      refine (vStart_any S1d 1 (by omega)).mono ?_
      unfold StartsAt
      rintro e w2 ⟨rfl, S2⟩
      go_wp2_with fail
      refine hK.out _ _ (gat S2) (fun h2 => ?_)
      clear hK K hHeld
      try simp only [Act.put, List.setIfInBounds_toArray, List.set_cons_zero, List.set_cons_succ]
      refine wpAnyH_ready (rs := [3, 7]) (by kernel_rfl) (by simp) ?_
      refine AllReadyH.cons rfl (fun K hK => ?_) (AllReadyH.cons rfl (fun K hK => ?_) AllReadyH.nil)
      · go_simp
        go_at_call 15
        refine (vStep_any (n := 4) S2 (fun w' h => Rd.lit (h.block 1 rfl).1) rfl (by unfold maxLen; omega) 9 9 (hs := start_ok (x := 1) (by omega)) 3 0 (by omega) (by omega)).mono ?_
        unfold Stepped
        rintro e w3 ⟨rfl, S3⟩
        rw [HK1.out]
        go_wp2_with fail
        refine hK.out _ _ (gat S3) (fun h3 => ?_)
        clear hK K h2
        try simp only [Act.put, List.setIfInBounds_toArray, List.set_cons_zero, List.set_cons_succ]
        first
          | (refine wpAnyH_take (i := 4) (v := ?_) rfl (by kernel_rfl) (by kernel_rfl) (by kernel_rfl) (fun _ _ _ h => h) (Or.inl ⟨by rfl, ?_⟩) (by assumption) ?_
             rotate_left
             · (intro w hSw; (try dsimp only at hSw); first | (go_simp; done) | (go_simp; with_reducible rfl))
             (try simp only [Act.put, List.setIfInBounds_toArray, List.set_cons_zero, List.set_cons_succ]))
          | fail
        first
          | (refine wpAnyH_take (i := 5) (v := ?_) rfl (by kernel_rfl) (by kernel_rfl) (by kernel_rfl) (fun _ _ _ h => h) (Or.inl ⟨by rfl, ?_⟩) (by assumption) ?_
             rotate_left
             · (intro w hSw; (try dsimp only at hSw); first | (go_simp; done) | (go_simp; with_reducible rfl))
             (try simp only [Act.put, List.setIfInBounds_toArray, List.set_cons_zero, List.set_cons_succ]))
          | fail
        first
          | (refine wpAnyH_take (i := 6) (v := ?_) rfl (by kernel_rfl) (by kernel_rfl) (by kernel_rfl) (fun _ _ _ h => h) (Or.inl ⟨by rfl, ?_⟩) (by assumption) ?_
             rotate_left
             · (intro w hSw; (try dsimp only at hSw); first | (go_simp; done) | (go_simp; with_reducible rfl))
             (try simp only [Act.put, List.setIfInBounds_toArray, List.set_cons_zero, List.set_cons_succ]))
          | fail
        refine wpAnyH_ready (rs := [7]) (by kernel_rfl) (by simp) ?_
        refine AllReadyH.cons rfl (fun K hK => ?_) AllReadyH.nil
        go_simp
        have S4 := S3.alloc [.int .i64 0, .int .i32 0, .int .i32 0, .int .i32 0, .int .i32 0, .int .i32 0, .int .i32 0, .int .i32 0, .int .i32 0, .int .i32 0, .int .i32 0, .int .i32 0, .int .i32 0, .int .i32 0, .int .i32 0, .int .i32 0, .int .i32 0, .int .u32 0, .bool false, .int .i64 0] 28
        refine hK.out _ _ (gat S4.tail) (fun h4 => ?_)
        clear hK K h3
        try simp only [Act.put, List.setIfInBounds_toArray, List.set_cons_zero, List.set_cons_succ]
        refine wpAnyH_ready (rs := [8]) (by kernel_rfl) (by simp) ?_
        refine AllReadyH.cons rfl (fun K hK => ?_) AllReadyH.nil
        refine step_store_sat (off := 0) (n := 20) rfl 28 _ _ rfl S4 rfl rfl HL20.out (by decide) Try.sizeS (svals_one _) ?_
        intro w4 S5
        rw [zstore] at S5
        refine hK.out _ _ (gat S5.tail) (fun h5 => ?_)
        clear hK K h4
        try simp only [Act.put, List.setIfInBounds_toArray, List.set_cons_zero, List.set_cons_succ]
        first
          | (refine wpAnyH_take (i := 9) (v := ?_) rfl (by kernel_rfl) (by kernel_rfl) (by kernel_rfl) (fun _ _ _ h => h) (Or.inl ⟨by rfl, ?_⟩) (by assumption) ?_
             rotate_left
             · (intro w hSw; (try dsimp only at hSw); first | (go_simp; done) | (go_simp; with_reducible rfl))
             (try simp only [Act.put, List.setIfInBounds_toArray, List.set_cons_zero, List.set_cons_succ]))
          | fail
        refine wpAnyH_done (by kernel_rfl) ?_ _
        simp only [List.getElem_toArray, List.getElem_cons_zero, List.getElem_cons_succ, List.setIfInBounds_toArray, List.set_cons_zero, List.set_cons_succ]
        go_wp2_with fail
        go_meet
        exact ⟨_, rfl, rfl, S5⟩
      · go_simp
        have S4 := S2.alloc [.int .i64 0, .int .i32 0, .int .i32 0, .int .i32 0, .int .i32 0, .int .i32 0, .int .i32 0, .int .i32 0, .int .i32 0, .int .i32 0, .int .i32 0, .int .i32 0, .int .i32 0, .int .i32 0, .int .i32 0, .int .i32 0, .int .i32 0, .int .u32 0, .bool false, .int .i64 0] 28
        refine hK.out _ _ (gat S4.tail) (fun h3 => ?_)
        clear hK K h2
        try simp only [Act.put, List.setIfInBounds_toArray, List.set_cons_zero, List.set_cons_succ]
        refine wpAnyH_ready (rs := [3]) (by kernel_rfl) (by simp) ?_
        refine AllReadyH.cons rfl (fun K hK => ?_) AllReadyH.nil
        go_simp
        go_at_call 15
        refine (vStep_any (n := 4) S4 (fun w' h => Rd.lit (h.block 2 rfl).1) rfl (by unfold maxLen; omega) 9 9 (hs := start_ok (x := 1) (by omega)) 3 0 (by omega) (by omega)).mono ?_
        unfold Stepped
        rintro e w3 ⟨rfl, S6⟩
        rw [HK1.out]
        go_wp2_with fail
        refine hK.out _ _ (gat S6.tail) (fun h4 => ?_)
        clear hK K h3
        try simp only [Act.put, List.setIfInBounds_toArray, List.set_cons_zero, List.set_cons_succ]
        first
          | (refine wpAnyH_take (i := 4) (v := ?_) rfl (by kernel_rfl) (by kernel_rfl) (by kernel_rfl) (fun _ _ _ h => h) (Or.inl ⟨by rfl, ?_⟩) (by assumption) ?_
             rotate_left
             · (intro w hSw; (try dsimp only at hSw); first | (go_simp; done) | (go_simp; with_reducible rfl))
             (try simp only [Act.put, List.setIfInBounds_toArray, List.set_cons_zero, List.set_cons_succ]))
          | fail
        first
          | (refine wpAnyH_take (i := 5) (v := ?_) rfl (by kernel_rfl) (by kernel_rfl) (by kernel_rfl) (fun _ _ _ h => h) (Or.inl ⟨by rfl, ?_⟩) (by assumption) ?_
             rotate_left
             · (intro w hSw; (try dsimp only at hSw); first | (go_simp; done) | (go_simp; with_reducible rfl))
             (try simp only [Act.put, List.setIfInBounds_toArray, List.set_cons_zero, List.set_cons_succ]))
          | fail
        first
          | (refine wpAnyH_take (i := 6) (v := ?_) rfl (by kernel_rfl) (by kernel_rfl) (by kernel_rfl) (fun _ _ _ h => h) (Or.inl ⟨by rfl, ?_⟩) (by assumption) ?_
             rotate_left
             · (intro w hSw; (try dsimp only at hSw); first | (go_simp; done) | (go_simp; with_reducible rfl))
             (try simp only [Act.put, List.setIfInBounds_toArray, List.set_cons_zero, List.set_cons_succ]))
          | fail
        refine wpAnyH_ready (rs := [8]) (by kernel_rfl) (by simp) ?_
        refine AllReadyH.cons rfl (fun K hK => ?_) AllReadyH.nil
        refine step_store_sat (off := 0) (n := 20) rfl 28 _ _ rfl S6 rfl rfl HL20.out (by decide) Try.sizeS (svals_one _) ?_
        intro w4 S5
        rw [zstore] at S5
        refine hK.out _ _ (gat S5.tail) (fun h5 => ?_)
        clear hK K h4
        try simp only [Act.put, List.setIfInBounds_toArray, List.set_cons_zero, List.set_cons_succ]
        first
          | (refine wpAnyH_take (i := 9) (v := ?_) rfl (by kernel_rfl) (by kernel_rfl) (by kernel_rfl) (fun _ _ _ h => h) (Or.inl ⟨by rfl, ?_⟩) (by assumption) ?_
             rotate_left
             · (intro w hSw; (try dsimp only at hSw); first | (go_simp; done) | (go_simp; with_reducible rfl))
             (try simp only [Act.put, List.setIfInBounds_toArray, List.set_cons_zero, List.set_cons_succ]))
          | fail
        refine wpAnyH_done (by kernel_rfl) ?_ _
        simp only [List.getElem_toArray, List.getElem_cons_zero, List.getElem_cons_succ, List.setIfInBounds_toArray, List.set_cons_zero, List.set_cons_succ]
        go_wp2_with fail
        go_meet
        exact ⟨_, rfl, rfl, S5⟩
    · go_simp
      have S4 := S1d.alloc [.int .i64 0, .int .i32 0, .int .i32 0, .int .i32 0, .int .i32 0, .int .i32 0, .int .i32 0, .int .i32 0, .int .i32 0, .int .i32 0, .int .i32 0, .int .i32 0, .int .i32 0, .int .i32 0, .int .i32 0, .int .i32 0, .int .i32 0, .int .u32 0, .bool false, .int .i64 0] 28
      refine hK.out _ _ (gat S4.tail) (fun h2 => ?_)
      clear hK K hHeld
      try simp only [Act.put, List.setIfInBounds_toArray, List.set_cons_zero, List.set_cons_succ]
      refine wpAnyH_ready (rs := [1]) (by kernel_rfl) (by simp) ?_
      refine AllReadyH.cons rfl (fun K hK => ?_) AllReadyH.nil
      go_simp
      go_at_call 20
      refine (vStart_any S4 1 (by omega)).mono ?_
      unfold StartsAt
      rintro e w2 ⟨rfl, S6⟩
      go_wp2_with fail
      refine hK.out _ _ (gat S6.tail) (fun h3 => ?_)
      clear hK K h2
      try simp only [Act.put, List.setIfInBounds_toArray, List.set_cons_zero, List.set_cons_succ]
      refine wpAnyH_ready (rs := [3]) (by kernel_rfl) (by simp) ?_
      refine AllReadyH.cons rfl (fun K hK => ?_) AllReadyH.nil
      go_simp
      go_at_call 15
      refine (vStep_any (n := 4) S6 (fun w' h => Rd.lit (h.block 2 rfl).1) rfl (by unfold maxLen; omega) 9 9 (hs := start_ok (x := 1) (by omega)) 3 0 (by omega) (by omega)).mono ?_
      unfold Stepped
      rintro e w3 ⟨rfl, S7⟩
      rw [HK1.out]
      go_wp2_with fail
      refine hK.out _ _ (gat S7.tail) (fun h4 => ?_)
      clear hK K h3
      try simp only [Act.put, List.setIfInBounds_toArray, List.set_cons_zero, List.set_cons_succ]
      first
        | (refine wpAnyH_take (i := 4) (v := ?_) rfl (by kernel_rfl) (by kernel_rfl) (by kernel_rfl) (fun _ _ _ h => h) (Or.inl ⟨by rfl, ?_⟩) (by assumption) ?_
           rotate_left
           · (intro w hSw; (try dsimp only at hSw); first | (go_simp; done) | (go_simp; with_reducible rfl))
           (try simp only [Act.put, List.setIfInBounds_toArray, List.set_cons_zero, List.set_cons_succ]))
        | fail
      first
        | (refine wpAnyH_take (i := 5) (v := ?_) rfl (by kernel_rfl) (by kernel_rfl) (by kernel_rfl) (fun _ _ _ h => h) (Or.inl ⟨by rfl, ?_⟩) (by assumption) ?_
           rotate_left
           · (intro w hSw; (try dsimp only at hSw); first | (go_simp; done) | (go_simp; with_reducible rfl))
           (try simp only [Act.put, List.setIfInBounds_toArray, List.set_cons_zero, List.set_cons_succ]))
        | fail
      first
        | (refine wpAnyH_take (i := 6) (v := ?_) rfl (by kernel_rfl) (by kernel_rfl) (by kernel_rfl) (fun _ _ _ h => h) (Or.inl ⟨by rfl, ?_⟩) (by assumption) ?_
           rotate_left
           · (intro w hSw; (try dsimp only at hSw); first | (go_simp; done) | (go_simp; with_reducible rfl))
           (try simp only [Act.put, List.setIfInBounds_toArray, List.set_cons_zero, List.set_cons_succ]))
        | fail
      refine wpAnyH_ready (rs := [8]) (by kernel_rfl) (by simp) ?_
      refine AllReadyH.cons rfl (fun K hK => ?_) AllReadyH.nil
      refine step_store_sat (off := 0) (n := 20) rfl 28 _ _ rfl S7 rfl rfl HL20.out (by decide) Try.sizeS (svals_one _) ?_
      intro w4 S5
      rw [zstore] at S5
      refine hK.out _ _ (gat S5.tail) (fun h5 => ?_)
      clear hK K h4
      try simp only [Act.put, List.setIfInBounds_toArray, List.set_cons_zero, List.set_cons_succ]
      first
        | (refine wpAnyH_take (i := 9) (v := ?_) rfl (by kernel_rfl) (by kernel_rfl) (by kernel_rfl) (fun _ _ _ h => h) (Or.inl ⟨by rfl, ?_⟩) (by assumption) ?_
           rotate_left
           · (intro w hSw; (try dsimp only at hSw); first | (go_simp; done) | (go_simp; with_reducible rfl))
           (try simp only [Act.put, List.setIfInBounds_toArray, List.set_cons_zero, List.set_cons_succ]))
        | fail
      refine wpAnyH_done (by kernel_rfl) ?_ _
      simp only [List.getElem_toArray, List.getElem_cons_zero, List.getElem_cons_succ, List.setIfInBounds_toArray, List.set_cons_zero, List.set_cons_succ]
      go_wp2_with fail
      go_meet
      exact ⟨_, rfl, rfl, S5⟩
  case rest =>
    obtain ⟨y, rfl, rfl, S5⟩ := hcut
    have HK2 := Lib.hid kstep2
    obtain ⟨g0, g1, g2⟩ := gat S5.tail
    go_wp2_with (first
      | (refine wpList_store_sat (off := 0) (n := 20) rfl 28 _ _ rfl S7 rfl rfl rfl (by decide) Try.sizeS (svals_one k2) ?_; intro w8 S8; rw [zstore] at S8; have e0 : w8.cell? ⟨w6.heap.size, 0, none⟩ = some (.int .i64 2) := S8.cell 0 rfl 0; have e1 : w8.cell? ⟨w6.heap.size, 1, none⟩ = some (.int .i32 6) := S8.cell 0 rfl 1; have e18 : w8.cell? ⟨w6.heap.size, 18, none⟩ = some (.bool false) := S8.cell 0 rfl 18)
      | (refine wpList_load_part rfl 28 _ rfl (n := 20) rfl (S5.part 0 20) rfl Try.underlying28 rfl Try.sizeS ?_)
      | (go_at_call 15; refine (vStep_any (n := 4) S5 (fun w' h => Rd.lit (h.block 2 rfl).1) rfl (by unfold maxLen; omega) 9 9 k1_ok 3 0 (by omega) (by omega)).mono ?_; unfold Stepped; rintro e w6 ⟨rfl, S6⟩; rw [HK2.out]; have S7 := S6.alloc [.int .i64 0, .int .i32 0, .int .i32 0, .int .i32 0, .int .i32 0, .int .i32 0, .int .i32 0, .int .i32 0, .int .i32 0, .int .i32 0, .int .i32 0, .int .i32 0, .int .i32 0, .int .i32 0, .int .i32 0, .int .i32 0, .int .i32 0, .int .u32 0, .bool false, .int .i64 0] 28))
    go_ret
    exact ⟨rfl, Sat.tail (Sat.tail (Sat.tail (Sat.tail S8)))⟩
end Go.Proofs.Ytlkmkclohkbjeaa
