/-
  The law VmSteps, walked.
-/
import Derived.Test.YtlkmkclohkbjeaaVmK
import Derived.Test.YtlkmkclohkbjeaaVmW4
import Derived.Test.YtlkmkclohkbjeaaVmI
import Derived.Test.YtlkmkclohkbjeaaVmJ
namespace Go.Proofs.Ytlkmkclohkbjeaa
open Go.RowKit Go.Sep Go.Vm
set_option linter.unusedSimpArgs false

theorem stepsS {w w' : World} {pa pb pi ps pg : Nat} {t s : VS} {a : Option Addr} {n c : Nat} {cap fuel i0 i1 : Int} (S : Sat w w' (blk pb (svals t) 28 :: blk pa (svals t) 28 :: blk pi [.int .u16 i0, .int .u16 i1] 31 :: blk ps (svals s) 28 :: blk pg [.slice a n c, .int .i64 cap, .int .i64 fuel] 24 :: [])) :
    (∀ j, j < 20 → w'.cell? ⟨pa, 0 + j, none⟩ = (svals t)[j]?) ∧ (∀ j, j < 20 → w'.cell? ⟨pb, 0 + j, none⟩ = (svals t)[j]?) ∧ w'.cell? ⟨pg, 0, none⟩ = some (.slice a n c) ∧ w'.cell? ⟨pg, 1, none⟩ = some (.int .i64 cap) ∧ w'.cell? ⟨pg, 2, none⟩ = some (.int .i64 fuel) :=
  ⟨Sat.whole (S.sel [1]) 20, Sat.whole S 20, gat (S.sel [4])⟩

set_option maxRecDepth 100000 in
set_option maxHeartbeats 3200000 in
theorem VmSteps_walk {w : World} {a : Option Addr} {n c : Nat} {code : List (Int × Int)} (hR : Rd w a (insv code)) (hn : code.length = n) (hnm : n ≤ maxLen) (cap fuel : Int) {s : VS} (hs : s.Ok)
    (i0 i1 : Int) (hi0 : 0 ≤ i0 ∧ i0 < 65536) (hi1 : 0 ≤ i1 ∧ i1 < 65536) :
    Calls Try.prog 3 #[.agg #[.slice a n c, .int .i64 cap, .int .i64 fuel], .agg (svals s).toArray, .agg #[.int .u16 i0, .int .u16 i1]] w fun e w' => e = .returned (.bool true) ∧ Below w.heap.size w w' := by
  have S0 := Sat.start w
  have hRR : ∀ (L : List Asn) (w' : World), Sat w w' L → Rd w' a (insv code) := fun L w' h => hR.below h.below
  have S1 := ((S0.alloc [.slice a n c, .int .i64 cap, .int .i64 fuel] 24).alloc (svals s) 28).alloc [.int .u16 i0, .int .u16 i1] 31
  simp only [World.size_alloc] at S1
  obtain ⟨t, er, hr⟩ : ∃ t er, stepP code cap fuel s i0 i1 = (t, er) := ⟨_, _, rfl⟩
  have hto : t.Ok := by have := stepP_ok (code := code) (cap := cap) (fuel := fuel) hs hi0 hi1; rw [hr] at this; exact this
  have HR := Lib.hid hr
  have HTL := Lib.hid (svals_length hto.len)
  have HSL := Lib.hid (svals_length hs.len)
  have HRD := Lib.hid hRR
  have c0 := S1.cell 2 rfl 0
  simp only [List.getElem?_cons_zero] at c0
  obtain ⟨ck, hck⟩ : ∃ ck, checkP code cap fuel = ck := ⟨_, rfl⟩
  have HCK := Lib.hid hck
  have HN := Lib.hid hn
  clear hr hRR hck hR hn
  by_cases hbig : 300 < n
  · go_enter Try.func3, Try.ntmps3
    go_wp2_with fail
    go_ret
    exact ⟨rfl, S1.below⟩
  · have hb300 : n ≤ 300 := by omega
    go_enter Try.func3, Try.ntmps3
    go_upto_region 5 with (first
      | (refine wpList_load_part rfl 28 _ rfl (n := 20) rfl ((S1.sel [1]).part 0 20) (by rw [List.length_take, List.length_drop, HSL.out]; rfl) Try.underlying28 rfl Try.sizeS ?_; rw [List.drop_zero, List.take_of_length_le (by rw [HSL.out]; omega)])
      | (refine wpList_load_part rfl 28 _ rfl (n := 20) rfl ((S4.sel [2]).part 0 20) (by rw [List.length_take, List.length_drop, HSL.out]; rfl) Try.underlying28 rfl Try.sizeS ?_; rw [List.drop_zero, List.take_of_length_le (by rw [HSL.out]; omega)])
      | (refine wpList_store_sat (off := 0) (n := 20) rfl 28 _ _ rfl S3 rfl rfl HTL.out (by decide) Try.sizeS (svals_one t) ?_; intro w4 S4; rw [zstore] at S4; have d0 := S4.cell 3 rfl 0; have d1 := S4.cell 3 rfl 1; have d2 := S4.cell 3 rfl 2; have q0 := S4.cell 1 rfl 0; have q1 := S4.cell 1 rfl 1; simp only [List.getElem?_cons_zero, List.getElem?_cons_succ] at d0 d1 d2 q0 q1)
      | (refine wpList_store_sat (off := 0) (n := 20) rfl 28 _ _ rfl S6 rfl rfl HTL.out (by decide) Try.sizeS (svals_one t) ?_; intro w7 S7; rw [zstore] at S7)
      | (go_at_call 15; refine (vStep_any S1 (HRD.out _) HN.out hnm cap fuel hs i0 i1 hi0 hi1).mono ?_; unfold Stepped; rintro e w2 ⟨rfl, S2⟩; rw [HR.out]; have S3 := S2.alloc [.int .i64 0, .int .i32 0, .int .i32 0, .int .i32 0, .int .i32 0, .int .i32 0, .int .i32 0, .int .i32 0, .int .i32 0, .int .i32 0, .int .i32 0, .int .i32 0, .int .i32 0, .int .i32 0, .int .i32 0, .int .i32 0, .int .i32 0, .int .u32 0, .bool false, .int .i64 0] 28)
      | (go_at_call 16; refine (r10step_any S4 (HRD.out _) HN.out hnm cap fuel hs i0 i1 hi0 hi1).mono ?_; unfold Stepped; rintro e w5 ⟨rfl, S5⟩; rw [HR.out]; have S6 := S5.alloc [.int .i64 0, .int .i32 0, .int .i32 0, .int .i32 0, .int .i32 0, .int .i32 0, .int .i32 0, .int .i32 0, .int .i32 0, .int .i32 0, .int .i32 0, .int .i32 0, .int .i32 0, .int .i32 0, .int .i32 0, .int .i32 0, .int .i32 0, .int .u32 0, .bool false, .int .i64 0] 28))
    obtain ⟨pb, hpb⟩ : ∃ pb, pb = w5.heap.size := ⟨_, rfl⟩
    obtain ⟨pa, hpa⟩ : ∃ pa, pa = w2.heap.size := ⟨_, rfl⟩
    obtain ⟨pg, hpg⟩ : ∃ pg, pg = w.heap.size := ⟨_, rfl⟩
    rw [← hpb, ← hpa, ← hpg] at S7
    rw [← hpb, ← hpa, ← hpg]
    have HPG := Lib.hid hpg
    clear hpb hpa hpg S6 S5 S4 S3 S2 S1 d0 d1 d2 q0 q1 c0
    have S8 := S7.drew
    clear S7
    have HEQ := Lib.hid (fun w' => (run_eql_state (s := t) (t := t) w' hto.len hto.len).trans (by rw [decide_eq_true rfl]))
    have hse : (er == er) = true := by simp
    have hsc : (ck == ck) = true := by simp
    refine wp_region_held_drew (S := (fun w' => (∀ j, j < 20 → w'.cell? ⟨pa, 0 + j, none⟩ = (svals t)[j]?) ∧ (∀ j, j < 20 → w'.cell? ⟨pb, 0 + j, none⟩ = (svals t)[j]?) ∧ w'.cell? ⟨pg, 0, none⟩ = some (.slice a n c) ∧ w'.cell? ⟨pg, 1, none⟩ = some (.int .i64 cap) ∧ w'.cell? ⟨pg, 2, none⟩ = some (.int .i64 fuel))) (by kernel_rfl) (stepsS S8) (fun hHeld => ?_)
    refine wpAnyH_take (i := 0) rfl (by kernel_rfl) (by kernel_rfl) (by kernel_rfl) (fun _ _ _ h => h) (yields_load_part rfl 28 _ rfl (g := pa) (off := 0) (n := 20) (cs := svals t) rfl (fun w h => h.1) HTL.out Try.underlying28 rfl Try.sizeS) (by assumption) ?_
    try simp only [Act.put, List.getElem_toArray, List.getElem_cons_zero, List.getElem_cons_succ, List.setIfInBounds_toArray, List.set_cons_zero, List.set_cons_succ]
    refine wpAnyH_take (i := 1) rfl (by kernel_rfl) (by kernel_rfl) (by kernel_rfl) (fun _ _ _ h => h) (yields_load_part rfl 28 _ rfl (g := pb) (off := 0) (n := 20) (cs := svals t) rfl (fun w h => h.2.1) HTL.out Try.underlying28 rfl Try.sizeS) (by assumption) ?_
    try simp only [Act.put, List.getElem_toArray, List.getElem_cons_zero, List.getElem_cons_succ, List.setIfInBounds_toArray, List.set_cons_zero, List.set_cons_succ]
    refine wpAnyH_take (i := 2) rfl (by kernel_rfl) (by kernel_rfl) (by kernel_rfl) (fun _ _ _ h => h) (yields_eq_agg rfl .eql 28 _ _ rfl (r := true) rfl rfl (by kernel_rfl) (fun w => HEQ.out w)) (by assumption) ?_
    try simp only [Act.put, List.getElem_toArray, List.getElem_cons_zero, List.getElem_cons_succ, List.setIfInBounds_toArray, List.set_cons_zero, List.set_cons_succ]
    first
      | (refine wpAnyH_take (i := 3) (v := ?_) rfl (by kernel_rfl) (by kernel_rfl) (by kernel_rfl) (fun _ _ _ h => h) (Or.inl ⟨by rfl, ?_⟩) (by assumption) ?_
         rotate_left
         · (intro w hSw; (try dsimp only at hSw); first | (go_simp; done) | (go_simp; with_reducible rfl))
         (try simp only [Act.put, List.getElem_toArray, List.getElem_cons_zero, List.getElem_cons_succ, List.setIfInBounds_toArray, List.set_cons_zero, List.set_cons_succ]))
      | fail
    first
      | (refine wpAnyH_take (i := 4) (v := ?_) rfl (by kernel_rfl) (by kernel_rfl) (by kernel_rfl) (fun _ _ _ h => h) (Or.inl ⟨by rfl, ?_⟩) (by assumption) ?_
         rotate_left
         · (intro w hSw; (try dsimp only at hSw); first | (go_simp; done) | (go_simp; with_reducible rfl))
         (try simp only [Act.put, List.getElem_toArray, List.getElem_cons_zero, List.getElem_cons_succ, List.setIfInBounds_toArray, List.set_cons_zero, List.set_cons_succ]))
      | fail
    first
      | (refine wpAnyH_take (i := 5) (v := ?_) rfl (by kernel_rfl) (by kernel_rfl) (by kernel_rfl) (fun _ _ _ h => h) (Or.inl ⟨by rfl, ?_⟩) (by assumption) ?_
         rotate_left
         · (intro w hSw; (try dsimp only at hSw); first | (go_simp; done) | (go_simp; with_reducible rfl))
         (try simp only [Act.put, List.getElem_toArray, List.getElem_cons_zero, List.getElem_cons_succ, List.setIfInBounds_toArray, List.set_cons_zero, List.set_cons_succ]))
      | fail
    refine wpAnyH_take (i := 6) (v := .bool true) rfl (by kernel_rfl) (by kernel_rfl) (by kernel_rfl) (fun _ _ _ h => h) (Or.inl ⟨by rfl, ?_⟩) (by assumption) ?_
    · (intro w hSw; (try dsimp only at hSw); first | (go_simp; done) | (go_simp; simp [hse]; done) | (go_simp; rw [hse]))
    try simp only [Act.put, List.getElem_toArray, List.getElem_cons_zero, List.getElem_cons_succ, List.setIfInBounds_toArray, List.set_cons_zero, List.set_cons_succ]
    first
      | (refine wpAnyH_take (i := 7) (v := ?_) rfl (by kernel_rfl) (by kernel_rfl) (by kernel_rfl) (fun _ _ _ h => h) (Or.inl ⟨by rfl, ?_⟩) (by assumption) ?_
         rotate_left
         · (intro w hSw; (try dsimp only at hSw); first | (go_simp; done) | (go_simp; with_reducible rfl))
         (try simp only [Act.put, List.getElem_toArray, List.getElem_cons_zero, List.getElem_cons_succ, List.setIfInBounds_toArray, List.set_cons_zero, List.set_cons_succ]))
      | fail
    first
      | (refine wpAnyH_take (i := 8) (v := ?_) rfl (by kernel_rfl) (by kernel_rfl) (by kernel_rfl) (fun _ _ _ h => h) (Or.inl ⟨by rfl, ?_⟩) (by assumption) ?_
         rotate_left
         · (intro w hSw; (try dsimp only at hSw); first | (go_simp; done) | (go_simp; with_reducible rfl))
         (try simp only [Act.put, List.getElem_toArray, List.getElem_cons_zero, List.getElem_cons_succ, List.setIfInBounds_toArray, List.set_cons_zero, List.set_cons_succ]))
      | fail
    refine wpAnyH_ready (rs := [9, 11]) (by kernel_rfl) (by simp) ?_
    refine AllReadyH.cons rfl ?_ (AllReadyH.cons rfl ?_ AllReadyH.nil)
    · intro K hK
      obtain ⟨g0, g1, g2⟩ := gat (S8.sel [4])
      go_simp
      refine hK.out _ _ (stepsS S8) (fun h1 => ?_)
      clear hK K hHeld g0 g1 g2
      try simp only [Act.put, List.getElem_toArray, List.getElem_cons_zero, List.getElem_cons_succ, List.setIfInBounds_toArray, List.set_cons_zero, List.set_cons_succ]
      refine wpAnyH_ready (rs := [10, 11]) (by kernel_rfl) (by simp) ?_
      refine AllReadyH.cons rfl ?_ (AllReadyH.cons rfl ?_ AllReadyH.nil)
      · intro K hK
        go_simp
        go_at_call 17
        refine (vCheck_any S8 (HRD.out _) HN.out hnm cap fuel).mono ?_
        rintro e w8 ⟨rfl, S9⟩
        rw [HCK.out]
        go_wp2_with fail
        refine hK.out _ _ (stepsS S9) (fun h2 => ?_)
        clear hK K h1
        try simp only [Act.put, List.getElem_toArray, List.getElem_cons_zero, List.getElem_cons_succ, List.setIfInBounds_toArray, List.set_cons_zero, List.set_cons_succ]
        refine wpAnyH_ready (rs := [11]) (by kernel_rfl) (by simp) ?_
        refine AllReadyH.cons rfl ?_ AllReadyH.nil
        intro K hK
        obtain ⟨g0, g1, g2⟩ := gat (S9.sel [4])
        go_simp
        refine hK.out _ _ (stepsS S9) (fun h3 => ?_)
        clear hK K h2 g0 g1 g2
        try simp only [Act.put, List.getElem_toArray, List.getElem_cons_zero, List.getElem_cons_succ, List.setIfInBounds_toArray, List.set_cons_zero, List.set_cons_succ]
        refine wpAnyH_ready (rs := [12]) (by kernel_rfl) (by simp) ?_
        refine AllReadyH.cons rfl ?_ AllReadyH.nil
        intro K hK
        go_simp
        go_at_call 18
        refine (r10check_any S9 (HRD.out _) HN.out hnm cap fuel).mono ?_
        rintro e w8 ⟨rfl, S10⟩
        rw [HCK.out]
        go_wp2_with fail
        refine hK.out _ _ (stepsS S10) (fun h10 => ?_)
        clear hK K h3
        try simp only [Act.put, List.getElem_toArray, List.getElem_cons_zero, List.getElem_cons_succ, List.setIfInBounds_toArray, List.set_cons_zero, List.set_cons_succ]
        refine wpAnyH_take (i := 13) (v := .bool true) rfl (by kernel_rfl) (by kernel_rfl) (by kernel_rfl) (fun _ _ _ h => h) (Or.inl ⟨by rfl, ?_⟩) (by assumption) ?_
        · (intro w hSw; (try dsimp only at hSw); first | (go_simp; done) | (go_simp; simp [hsc]; done) | (go_simp; rw [hsc]))
        try simp only [Act.put, List.getElem_toArray, List.getElem_cons_zero, List.getElem_cons_succ, List.setIfInBounds_toArray, List.set_cons_zero, List.set_cons_succ]
        first
          | (refine wpAnyH_take (i := 14) (v := ?_) rfl (by kernel_rfl) (by kernel_rfl) (by kernel_rfl) (fun _ _ _ h => h) (Or.inl ⟨by rfl, ?_⟩) (by assumption) ?_
             rotate_left
             · (intro w hSw; (try dsimp only at hSw); first | (go_simp; done) | (go_simp; with_reducible rfl))
             (try simp only [Act.put, List.getElem_toArray, List.getElem_cons_zero, List.getElem_cons_succ, List.setIfInBounds_toArray, List.set_cons_zero, List.set_cons_succ]))
          | fail
        first
          | (refine wpAnyH_take (i := 15) (v := ?_) rfl (by kernel_rfl) (by kernel_rfl) (by kernel_rfl) (fun _ _ _ h => h) (Or.inl ⟨by rfl, ?_⟩) (by assumption) ?_
             rotate_left
             · (intro w hSw; (try dsimp only at hSw); first | (go_simp; done) | (go_simp; with_reducible rfl))
             (try simp only [Act.put, List.getElem_toArray, List.getElem_cons_zero, List.getElem_cons_succ, List.setIfInBounds_toArray, List.set_cons_zero, List.set_cons_succ]))
          | fail
        refine wpAnyH_ready (rs := [16]) (by kernel_rfl) (by simp) ?_
        refine AllReadyH.cons rfl ?_ AllReadyH.nil
        intro K hK
        go_simp
        go_at_call 19
        refine (vknown_any S10).mono ?_
        rintro e w8 ⟨rfl, S11⟩
        go_wp2_with fail
        refine hK.out _ _ (stepsS S11) (fun h11 => ?_)
        clear hK K h10
        try simp only [Act.put, List.getElem_toArray, List.getElem_cons_zero, List.getElem_cons_succ, List.setIfInBounds_toArray, List.set_cons_zero, List.set_cons_succ]
        first
          | (refine wpAnyH_take (i := 17) (v := ?_) rfl (by kernel_rfl) (by kernel_rfl) (by kernel_rfl) (fun _ _ _ h => h) (Or.inl ⟨by rfl, ?_⟩) (by assumption) ?_
             rotate_left
             · (intro w hSw; (try dsimp only at hSw); first | (go_simp; done) | (go_simp; with_reducible rfl))
             (try simp only [Act.put, List.getElem_toArray, List.getElem_cons_zero, List.getElem_cons_succ, List.setIfInBounds_toArray, List.set_cons_zero, List.set_cons_succ]))
          | fail
        first
          | (refine wpAnyH_take (i := 18) (v := ?_) rfl (by kernel_rfl) (by kernel_rfl) (by kernel_rfl) (fun _ _ _ h => h) (Or.inl ⟨by rfl, ?_⟩) (by assumption) ?_
             rotate_left
             · (intro w hSw; (try dsimp only at hSw); first | (go_simp; done) | (go_simp; with_reducible rfl))
             (try simp only [Act.put, List.getElem_toArray, List.getElem_cons_zero, List.getElem_cons_succ, List.setIfInBounds_toArray, List.set_cons_zero, List.set_cons_succ]))
          | fail
        refine wpAnyH_done (by kernel_rfl) ?_ _
        try simp only [List.getElem_toArray, List.getElem_cons_zero, List.getElem_cons_succ, List.setIfInBounds_toArray, List.set_cons_zero, List.set_cons_succ]
        go_wp2_with fail
        go_ret
        exact ⟨rfl, S11.below⟩
      · intro K hK
        obtain ⟨g0, g1, g2⟩ := gat (S8.sel [4])
        go_simp
        refine hK.out _ _ (stepsS S8) (fun h2 => ?_)
        clear hK K h1 g0 g1 g2
        try simp only [Act.put, List.getElem_toArray, List.getElem_cons_zero, List.getElem_cons_succ, List.setIfInBounds_toArray, List.set_cons_zero, List.set_cons_succ]
        refine wpAnyH_ready (rs := [10]) (by kernel_rfl) (by simp) ?_
        refine AllReadyH.cons rfl ?_ AllReadyH.nil
        intro K hK
        go_simp
        go_at_call 17
        refine (vCheck_any S8 (HRD.out _) HN.out hnm cap fuel).mono ?_
        rintro e w8 ⟨rfl, S9⟩
        rw [HCK.out]
        go_wp2_with fail
        refine hK.out _ _ (stepsS S9) (fun h3 => ?_)
        clear hK K h2
        try simp only [Act.put, List.getElem_toArray, List.getElem_cons_zero, List.getElem_cons_succ, List.setIfInBounds_toArray, List.set_cons_zero, List.set_cons_succ]
        refine wpAnyH_ready (rs := [12]) (by kernel_rfl) (by simp) ?_
        refine AllReadyH.cons rfl ?_ AllReadyH.nil
        intro K hK
        go_simp
        go_at_call 18
        refine (r10check_any S9 (HRD.out _) HN.out hnm cap fuel).mono ?_
        rintro e w8 ⟨rfl, S10⟩
        rw [HCK.out]
        go_wp2_with fail
        refine hK.out _ _ (stepsS S10) (fun h10 => ?_)
        clear hK K h3
        try simp only [Act.put, List.getElem_toArray, List.getElem_cons_zero, List.getElem_cons_succ, List.setIfInBounds_toArray, List.set_cons_zero, List.set_cons_succ]
        refine wpAnyH_take (i := 13) (v := .bool true) rfl (by kernel_rfl) (by kernel_rfl) (by kernel_rfl) (fun _ _ _ h => h) (Or.inl ⟨by rfl, ?_⟩) (by assumption) ?_
        · (intro w hSw; (try dsimp only at hSw); first | (go_simp; done) | (go_simp; simp [hsc]; done) | (go_simp; rw [hsc]))
        try simp only [Act.put, List.getElem_toArray, List.getElem_cons_zero, List.getElem_cons_succ, List.setIfInBounds_toArray, List.set_cons_zero, List.set_cons_succ]
        first
          | (refine wpAnyH_take (i := 14) (v := ?_) rfl (by kernel_rfl) (by kernel_rfl) (by kernel_rfl) (fun _ _ _ h => h) (Or.inl ⟨by rfl, ?_⟩) (by assumption) ?_
             rotate_left
             · (intro w hSw; (try dsimp only at hSw); first | (go_simp; done) | (go_simp; with_reducible rfl))
             (try simp only [Act.put, List.getElem_toArray, List.getElem_cons_zero, List.getElem_cons_succ, List.setIfInBounds_toArray, List.set_cons_zero, List.set_cons_succ]))
          | fail
        first
          | (refine wpAnyH_take (i := 15) (v := ?_) rfl (by kernel_rfl) (by kernel_rfl) (by kernel_rfl) (fun _ _ _ h => h) (Or.inl ⟨by rfl, ?_⟩) (by assumption) ?_
             rotate_left
             · (intro w hSw; (try dsimp only at hSw); first | (go_simp; done) | (go_simp; with_reducible rfl))
             (try simp only [Act.put, List.getElem_toArray, List.getElem_cons_zero, List.getElem_cons_succ, List.setIfInBounds_toArray, List.set_cons_zero, List.set_cons_succ]))
          | fail
        refine wpAnyH_ready (rs := [16]) (by kernel_rfl) (by simp) ?_
        refine AllReadyH.cons rfl ?_ AllReadyH.nil
        intro K hK
        go_simp
        go_at_call 19
        refine (vknown_any S10).mono ?_
        rintro e w8 ⟨rfl, S11⟩
        go_wp2_with fail
        refine hK.out _ _ (stepsS S11) (fun h11 => ?_)
        clear hK K h10
        try simp only [Act.put, List.getElem_toArray, List.getElem_cons_zero, List.getElem_cons_succ, List.setIfInBounds_toArray, List.set_cons_zero, List.set_cons_succ]
        first
          | (refine wpAnyH_take (i := 17) (v := ?_) rfl (by kernel_rfl) (by kernel_rfl) (by kernel_rfl) (fun _ _ _ h => h) (Or.inl ⟨by rfl, ?_⟩) (by assumption) ?_
             rotate_left
             · (intro w hSw; (try dsimp only at hSw); first | (go_simp; done) | (go_simp; with_reducible rfl))
             (try simp only [Act.put, List.getElem_toArray, List.getElem_cons_zero, List.getElem_cons_succ, List.setIfInBounds_toArray, List.set_cons_zero, List.set_cons_succ]))
          | fail
        first
          | (refine wpAnyH_take (i := 18) (v := ?_) rfl (by kernel_rfl) (by kernel_rfl) (by kernel_rfl) (fun _ _ _ h => h) (Or.inl ⟨by rfl, ?_⟩) (by assumption) ?_
             rotate_left
             · (intro w hSw; (try dsimp only at hSw); first | (go_simp; done) | (go_simp; with_reducible rfl))
             (try simp only [Act.put, List.getElem_toArray, List.getElem_cons_zero, List.getElem_cons_succ, List.setIfInBounds_toArray, List.set_cons_zero, List.set_cons_succ]))
          | fail
        refine wpAnyH_done (by kernel_rfl) ?_ _
        try simp only [List.getElem_toArray, List.getElem_cons_zero, List.getElem_cons_succ, List.setIfInBounds_toArray, List.set_cons_zero, List.set_cons_succ]
        go_wp2_with fail
        go_ret
        exact ⟨rfl, S11.below⟩
    · intro K hK
      obtain ⟨g0, g1, g2⟩ := gat (S8.sel [4])
      go_simp
      refine hK.out _ _ (stepsS S8) (fun h1 => ?_)
      clear hK K hHeld g0 g1 g2
      try simp only [Act.put, List.getElem_toArray, List.getElem_cons_zero, List.getElem_cons_succ, List.setIfInBounds_toArray, List.set_cons_zero, List.set_cons_succ]
      refine wpAnyH_ready (rs := [9]) (by kernel_rfl) (by simp) ?_
      refine AllReadyH.cons rfl ?_ AllReadyH.nil
      intro K hK
      obtain ⟨g0, g1, g2⟩ := gat (S8.sel [4])
      go_simp
      refine hK.out _ _ (stepsS S8) (fun h2 => ?_)
      clear hK K h1 g0 g1 g2
      try simp only [Act.put, List.getElem_toArray, List.getElem_cons_zero, List.getElem_cons_succ, List.setIfInBounds_toArray, List.set_cons_zero, List.set_cons_succ]
      refine wpAnyH_ready (rs := [10]) (by kernel_rfl) (by simp) ?_
      refine AllReadyH.cons rfl ?_ AllReadyH.nil
      intro K hK
      go_simp
      go_at_call 17
      refine (vCheck_any S8 (HRD.out _) HN.out hnm cap fuel).mono ?_
      rintro e w8 ⟨rfl, S9⟩
      rw [HCK.out]
      go_wp2_with fail
      refine hK.out _ _ (stepsS S9) (fun h3 => ?_)
      clear hK K h2
      try simp only [Act.put, List.getElem_toArray, List.getElem_cons_zero, List.getElem_cons_succ, List.setIfInBounds_toArray, List.set_cons_zero, List.set_cons_succ]
      refine wpAnyH_ready (rs := [12]) (by kernel_rfl) (by simp) ?_
      refine AllReadyH.cons rfl ?_ AllReadyH.nil
      intro K hK
      go_simp
      go_at_call 18
      refine (r10check_any S9 (HRD.out _) HN.out hnm cap fuel).mono ?_
      rintro e w8 ⟨rfl, S10⟩
      rw [HCK.out]
      go_wp2_with fail
      refine hK.out _ _ (stepsS S10) (fun h10 => ?_)
      clear hK K h3
      try simp only [Act.put, List.getElem_toArray, List.getElem_cons_zero, List.getElem_cons_succ, List.setIfInBounds_toArray, List.set_cons_zero, List.set_cons_succ]
      refine wpAnyH_take (i := 13) (v := .bool true) rfl (by kernel_rfl) (by kernel_rfl) (by kernel_rfl) (fun _ _ _ h => h) (Or.inl ⟨by rfl, ?_⟩) (by assumption) ?_
      · (intro w hSw; (try dsimp only at hSw); first | (go_simp; done) | (go_simp; simp [hsc]; done) | (go_simp; rw [hsc]))
      try simp only [Act.put, List.getElem_toArray, List.getElem_cons_zero, List.getElem_cons_succ, List.setIfInBounds_toArray, List.set_cons_zero, List.set_cons_succ]
      first
        | (refine wpAnyH_take (i := 14) (v := ?_) rfl (by kernel_rfl) (by kernel_rfl) (by kernel_rfl) (fun _ _ _ h => h) (Or.inl ⟨by rfl, ?_⟩) (by assumption) ?_
           rotate_left
           · (intro w hSw; (try dsimp only at hSw); first | (go_simp; done) | (go_simp; with_reducible rfl))
           (try simp only [Act.put, List.getElem_toArray, List.getElem_cons_zero, List.getElem_cons_succ, List.setIfInBounds_toArray, List.set_cons_zero, List.set_cons_succ]))
        | fail
      first
        | (refine wpAnyH_take (i := 15) (v := ?_) rfl (by kernel_rfl) (by kernel_rfl) (by kernel_rfl) (fun _ _ _ h => h) (Or.inl ⟨by rfl, ?_⟩) (by assumption) ?_
           rotate_left
           · (intro w hSw; (try dsimp only at hSw); first | (go_simp; done) | (go_simp; with_reducible rfl))
           (try simp only [Act.put, List.getElem_toArray, List.getElem_cons_zero, List.getElem_cons_succ, List.setIfInBounds_toArray, List.set_cons_zero, List.set_cons_succ]))
        | fail
      refine wpAnyH_ready (rs := [16]) (by kernel_rfl) (by simp) ?_
      refine AllReadyH.cons rfl ?_ AllReadyH.nil
      intro K hK
      go_simp
      go_at_call 19
      refine (vknown_any S10).mono ?_
      rintro e w8 ⟨rfl, S11⟩
      go_wp2_with fail
      refine hK.out _ _ (stepsS S11) (fun h11 => ?_)
      clear hK K h10
      try simp only [Act.put, List.getElem_toArray, List.getElem_cons_zero, List.getElem_cons_succ, List.setIfInBounds_toArray, List.set_cons_zero, List.set_cons_succ]
      first
        | (refine wpAnyH_take (i := 17) (v := ?_) rfl (by kernel_rfl) (by kernel_rfl) (by kernel_rfl) (fun _ _ _ h => h) (Or.inl ⟨by rfl, ?_⟩) (by assumption) ?_
           rotate_left
           · (intro w hSw; (try dsimp only at hSw); first | (go_simp; done) | (go_simp; with_reducible rfl))
           (try simp only [Act.put, List.getElem_toArray, List.getElem_cons_zero, List.getElem_cons_succ, List.setIfInBounds_toArray, List.set_cons_zero, List.set_cons_succ]))
        | fail
      first
        | (refine wpAnyH_take (i := 18) (v := ?_) rfl (by kernel_rfl) (by kernel_rfl) (by kernel_rfl) (fun _ _ _ h => h) (Or.inl ⟨by rfl, ?_⟩) (by assumption) ?_
           rotate_left
           · (intro w hSw; (try dsimp only at hSw); first | (go_simp; done) | (go_simp; with_reducible rfl))
           (try simp only [Act.put, List.getElem_toArray, List.getElem_cons_zero, List.getElem_cons_succ, List.setIfInBounds_toArray, List.set_cons_zero, List.set_cons_succ]))
        | fail
      refine wpAnyH_done (by kernel_rfl) ?_ _
      try simp only [List.getElem_toArray, List.getElem_cons_zero, List.getElem_cons_succ, List.setIfInBounds_toArray, List.set_cons_zero, List.set_cons_succ]
      go_wp2_with fail
      go_ret
      exact ⟨rfl, S11.below⟩
end Go.Proofs.Ytlkmkclohkbjeaa
