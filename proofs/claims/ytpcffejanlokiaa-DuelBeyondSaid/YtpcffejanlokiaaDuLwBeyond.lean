/-
  The law DuelBeyond, walked.
-/
import Derived.Test.YtpcffejanlokiaaDu7
namespace Go.Proofs.Ytpcffejanlokiaa
open Go.RowKit Go.Sep Go.Vm
set_option linter.unusedSimpArgs false

set_option maxRecDepth 100000 in
set_option maxHeartbeats 6400000 in
theorem DuelBeyond_walk {w : World} {a : Option Addr} {n c : Nat} {code : List (Int × Int)} (hR : Rd w a (insv code)) (hn : code.length = n) (hnm : n ≤ maxLen) (cap fuel : Int) (seed : Int) (hsd : 0 ≤ seed ∧ seed < 4294967296)
    {b : Option Addr} {m d : Nat} {ps : List (Int × Int)} (hRb : Rd w b (pairsv ps)) (hm : ps.length = m) (hmm : m ≤ maxLen) (hpb : ∀ x ∈ ps, (0 ≤ x.1 ∧ x.1 < 65536) ∧ (0 ≤ x.2 ∧ x.2 < 65536)) {b2 : Option Addr} {m2 d2 : Nat} {ps2 : List (Int × Int)} (hRb2 : Rd w b2 (pairsv ps2)) (hm2 : ps2.length = m2) (hmm2 : m2 ≤ maxLen) (hpb2 : ∀ x ∈ ps2, (0 ≤ x.1 ∧ x.1 < 65536) ∧ (0 ≤ x.2 ∧ x.2 < 65536)) :
    Calls Try.prog 6 #[.agg #[.slice a n c, .int .i64 cap, .int .i64 fuel], .int .u32 seed, .slice b m d,   .slice b2 m2 d2] w fun e w' => e = .returned (.bool true) ∧ Below w.heap.size w w' := by
  have S0 := Sat.start w
  have S1 := S0.alloc [.slice a n c, .int .i64 cap, .int .i64 fuel] 24
  have c0 := S1.cell 0 rfl 0
  simp only [List.getElem?_cons_zero] at c0
  have HN := Lib.hid hn
  have HM := Lib.hid hm
  have HRD := Lib.hid (fun (L : List Asn) (w' : World) (h : Sat w w' L) => hR.below h.below)
  have HRB := Lib.hid (fun (L : List Asn) (w' : World) (h : Sat w w' L) => hRb.below h.below)
  have HPB := Lib.hid hpb
  have HM2 := Lib.hid hm2
  have HRB2 := Lib.hid (fun (L : List Asn) (w' : World) (h : Sat w w' L) => hRb2.below h.below)
  have HPB2 := Lib.hid hpb2
  clear hn hm hR hRb hpb hm2 hRb2 hpb2
  by_cases hbig : 300 < n ∨ 100 < m
  · have hh : (decide (300 < n) || decide (100 < m)) = true := by simpa using hbig
    have HH := Lib.hid hh
    clear hh hbig
    go_enter Try.func6, Try.ntmps6
    go_wp2_with (go_at_call 9; refine (heavy_any S1 a b n c m d cap fuel hnm hmm HH.out).mono ?_; rintro e w2 ⟨rfl, S2⟩)
    go_ret
    exact ⟨rfl, S2.below⟩
  have hh : (decide (300 < n) || decide (100 < m)) = false := by simpa using hbig
  have HH := Lib.hid hh
  have hn300 : n ≤ 300 := by omega
  have hm100 : m ≤ 100 := by omega
  have hm9 : m ≤ 900 := by omega
  clear hbig hh
  by_cases hbig2 : 50 < m2
  · go_enter Try.func6, Try.ntmps6
    go_wp2_with (first
      | (go_at_call 9; refine (heavy_any S1 a b n c m d cap fuel hnm hmm HH.out).mono ?_; rintro e w2 ⟨rfl, S2⟩; have g2 := gat S2))
    go_ret
    exact ⟨rfl, S2.below⟩
  have hm50 : m2 ≤ 50 := by omega
  have h50 : decide ((50 : Int) < (m2 : Int)) = false := decide_eq_false (by omega)
  clear hbig2
  by_cases hck : checkP code cap fuel = 0
  case neg =>
    obtain ⟨ck, hk⟩ : ∃ ck, checkP code cap fuel = ck := ⟨_, rfl⟩
    have hz : (ck != 0) = true := by rw [← hk]; simpa using hck
    have HK := Lib.hid hk
    clear hk hck
    go_enter Try.func6, Try.ntmps6
    go_wp2_with (first
      | (go_at_call 9; refine (heavy_any S1 a b n c m d cap fuel hnm hmm HH.out).mono ?_; rintro e w2 ⟨rfl, S2⟩; have g2 := gat S2)
      | (go_at_call 10; refine (r10check_any S2 (fun w' h => HRD.out _ _ h) HN.out hnm cap fuel).mono ?_; rintro e w3 ⟨rfl, S3⟩; rw [HK.out]))
    go_ret
    exact ⟨rfl, S3.below⟩
  have HK := Lib.hid hck
  clear hck
  have hpl := playP_fold (code := code) (cap := cap) (fuel := fuel) (seed := seed) (ps := ps) HK.out
  have hgt := foldP_goes HK.out ps _ (goes_start HK.out hsd) HPB.out
  have hpl2 := playP_fold (code := code) (cap := cap) (fuel := fuel) (seed := seed) (ps := ps ++ ps2) HK.out
  have hgt2 := foldP_goes HK.out (ps ++ ps2) _ (goes_start HK.out hsd) (fun x hx => (List.mem_append.1 hx).elim (HPB.out x) (HPB2.out x))
  have hfr := foldP_frame HK.out ps2 _ hgt HPB2.out
  have hov := foldP_over (code := code) (cap := cap) (fuel := fuel) (s := foldP code cap fuel (VS.start seed) ps) (l := ps2)
  rw [← foldP_append] at hfr hov
  obtain ⟨A, hA⟩ : ∃ A, foldP code cap fuel (VS.start seed) ps = A := ⟨_, rfl⟩
  obtain ⟨B, hB⟩ : ∃ B, foldP code cap fuel (VS.start seed) (ps ++ ps2) = B := ⟨_, rfl⟩
  rw [hA] at hpl hgt hfr hov
  rw [hB] at hpl2 hgt2 hfr hov
  have HPL := Lib.hid hpl
  have HPL2 := Lib.hid hpl2
  have HPA : Hid (∀ x ∈ ps ++ ps2, (0 ≤ x.1 ∧ x.1 < 65536) ∧ (0 ≤ x.2 ∧ x.2 < 65536)) := fun x hx => (List.mem_append.1 hx).elim (HPB.out x) (HPB2.out x)
  have HGA := Lib.hid hgt
  have HGB := Lib.hid hgt2
  have HFR := Lib.hid hfr
  have HOV := Lib.hid hov
  have HAL := Lib.hid (svals_length hgt.ok.len)
  have HBL := Lib.hid (svals_length hgt2.ok.len)
  clear hpl hgt hpl2 hgt2 hA hB hfr hov
  go_enter Try.func6, Try.ntmps6
  go_wp2_with (first
    | (go_at_call 9; refine (heavy_any S1 a b n c m d cap fuel hnm hmm HH.out).mono ?_; rintro e w2 ⟨rfl, S2⟩; have g2 := gat S2)
    | (go_at_call 10; refine (r10check_any S2 (fun w' h => HRD.out _ _ h) HN.out hnm cap fuel).mono ?_; rintro e w3 ⟨rfl, S3⟩; rw [HK.out]; have g3 := gat S3)
    | (go_at_call 11; refine (play_any S3 (fun w' h => HRD.out _ _ h) HN.out hnm cap fuel seed hsd (fun w' h => HRB.out _ _ h) HM.out (by omega) HPB.out).mono ?_; unfold Stepped; rintro e w4 ⟨rfl, S4⟩; rw [HPL.out]; have S5 := S4.alloc [.int .i64 0, .int .i32 0, .int .i32 0, .int .i32 0, .int .i32 0, .int .i32 0, .int .i32 0, .int .i32 0, .int .i32 0, .int .i32 0, .int .i32 0, .int .i32 0, .int .i32 0, .int .i32 0, .int .i32 0, .int .i32 0, .int .i32 0, .int .u32 0, .bool false, .int .i64 0] 31)
    | (refine wpList_store_sat (off := 0) (n := 20) rfl 31 _ _ rfl S5 rfl rfl HAL.out (by decide) Try.sizeS (svals_one A) ?_; intro w6 S6; rw [zstore] at S6; have g6 := gat (S6.sel [1])))
  obtain ⟨i0, hi, hz0, hz1, hz2⟩ := info_parts Try.infoPair
  have S7 : Sat w w6 (blk w4.heap.size (svals A) 31 :: blk w.heap.size [.slice a n c, .int .i64 cap, .int .i64 fuel] 24 :: []) := S6
  generalize w4.heap.size = qa at S7 ⊢
  obtain ⟨pg, hpg⟩ : ∃ pg, pg = w.heap.size := ⟨_, rfl⟩
  rw [← hpg] at S7 ⊢
  clear hpg S1 S2 S3 S4 S5 S6 g2 g3 g6 c0
  have S8 := S7.drew
  go_cut [11, 12] (fun v2 v3 wx => ∃ y, v2 = .pointer (some ⟨y, 0, none⟩) ∧ v3 = .int .i64 0 ∧ Sat w wx (blk y (svals B) 31 :: blk qa (svals A) 31 :: blk pg [.slice a n c, .int .i64 cap, .int .i64 fuel] 24 :: []))
  case first =>
    refine wp_region_drawn (N := 14) (LN := #[false, false, false, false, false, false, false, false, false, false, false, false, false, false]) (by kernel_rfl) (by kernel_rfl) (by kernel_rfl) ?_
    refine wpAny_held (fun w' => w'.cell? ⟨pg, 0, none⟩ = some (.slice a n c) ∧ w'.cell? ⟨pg, 1, none⟩ = some (.int .i64 cap) ∧ w'.cell? ⟨pg, 2, none⟩ = some (.int .i64 fuel)) (gat S8.tail) (fun hHeld => ?_)
    refine wpAnyH_tk (i := 0) (v := ?_) (LN := #[true, false, false, false, false, false, false, false, false, false, false, false, false, false]) rfl (by kernel_rfl) (by kernel_rfl) (by kernel_rfl) (fun _ _ _ h => h) (by kernel_rfl) (by rfl) (by assumption) ?_ ?_
    rotate_left
    · intro w hSw; (try dsimp only at hSw); first | (go_simp; done) | (go_simp; with_reducible rfl)
    try simp only [Act.put, List.getElem_toArray, List.getElem_cons_zero, List.getElem_cons_succ, List.setIfInBounds_toArray, List.set_cons_zero, List.set_cons_succ]
    refine wpAnyH_tk (i := 1) (v := ?_) (LN := #[true, true, false, false, false, false, false, false, false, false, false, false, false, false]) rfl (by kernel_rfl) (by kernel_rfl) (by kernel_rfl) (fun _ _ _ h => h) (by kernel_rfl) (by rfl) (by assumption) ?_ ?_
    rotate_left
    · intro w hSw; (try dsimp only at hSw); first | (go_simp; done) | (go_simp; with_reducible rfl)
    try simp only [Act.put, List.getElem_toArray, List.getElem_cons_zero, List.getElem_cons_succ, List.setIfInBounds_toArray, List.set_cons_zero, List.set_cons_succ]
    refine wpAnyH_tk (i := 3) (v := ?_) (LN := #[true, true, false, true, false, false, false, false, false, false, false, false, false, false]) rfl (by kernel_rfl) (by kernel_rfl) (by kernel_rfl) (fun _ _ _ h => h) (by kernel_rfl) (by rfl) (by assumption) ?_ ?_
    rotate_left
    · intro w hSw; (try dsimp only at hSw); first | (go_simp; done) | (go_simp; with_reducible rfl)
    try simp only [Act.put, List.getElem_toArray, List.getElem_cons_zero, List.getElem_cons_succ, List.setIfInBounds_toArray, List.set_cons_zero, List.set_cons_succ]
    refine wpAnyH_tk (i := 5) (v := ?_) (LN := #[true, true, false, true, false, true, false, false, false, false, false, false, false, false]) rfl (by kernel_rfl) (by kernel_rfl) (by kernel_rfl) (fun _ _ _ h => h) (by kernel_rfl) (by rfl) (by assumption) ?_ ?_
    rotate_left
    · intro w hSw; (try dsimp only at hSw); first | (go_simp; done) | (go_simp; with_reducible rfl)
    try simp only [Act.put, List.getElem_toArray, List.getElem_cons_zero, List.getElem_cons_succ, List.setIfInBounds_toArray, List.set_cons_zero, List.set_cons_succ]
    refine wpAnyH_two (i := 2) (j := 11) (Li := #[true, true, true, true, false, true, false, false, false, false, false, false, false, false]) (Lj := #[true, true, false, true, false, true, false, false, false, false, false, true, false, false]) (by kernel_rfl) rfl rfl (by kernel_rfl) (by kernel_rfl) ?_ ?_
    · intro K hK
      go_simp
      have Sc1 := Sat.own_new (n := 0) (cap := 0) (size := 2) (xs := []) (post := []) (S8.alloc [] 39) rfl (Nat.le_refl _) (by unfold maxLen; omega) (by simp)
      try simp only [World.size_alloc] at Sc1
      refine hK.out _ _ (gat (Sc1.sel [2])) ?_
      clear hK K hHeld
      intro hHeld
      try simp only [Act.put, List.getElem_toArray, List.getElem_cons_zero, List.getElem_cons_succ, List.setIfInBounds_toArray, List.set_cons_zero, List.set_cons_succ]
      refine wpAnyH_two (i := 4) (j := 11) (Li := #[true, true, true, true, true, true, false, false, false, false, false, false, false, false]) (Lj := #[true, true, true, true, false, true, false, false, false, false, false, true, false, false]) (by kernel_rfl) rfl rfl (by kernel_rfl) (by kernel_rfl) ?_ ?_
      · intro K hK
        refine step_append_sat rfl _ _ _ rfl 39 i0 _ 2 4 Try.underlying26 hi hz0 hz1 hz2 rfl (by decide) Sc1 rfl rfl (HRB.out _ _ Sc1) (by rw [pairsv_length, HM.out]) (pairsv_one _) (by unfold maxLen; omega) (by omega) ?_
        intro ao1 cap1 w9 Sc2
        simp only [Nat.zero_add, List.nil_append] at Sc2 ⊢
        refine hK.out _ _ (gat (Sc2.sel [2])) ?_
        clear hK K hHeld
        intro hHeld
        try simp only [Act.put, List.getElem_toArray, List.getElem_cons_zero, List.getElem_cons_succ, List.setIfInBounds_toArray, List.set_cons_zero, List.set_cons_succ]
        refine wpAnyH_two (i := 6) (j := 11) (Li := #[true, true, true, true, true, true, true, false, false, false, false, false, false, false]) (Lj := #[true, true, true, true, true, true, false, false, false, false, false, true, false, false]) (by kernel_rfl) rfl rfl (by kernel_rfl) (by kernel_rfl) ?_ ?_
        · intro K hK
          refine step_append_sat rfl _ _ _ rfl 39 i0 _ 2 4 Try.underlying26 hi hz0 hz1 hz2 rfl (by decide) Sc2 rfl rfl (HRB2.out _ _ Sc2) (by rw [pairsv_length, HM2.out]) (pairsv_one _) (by unfold maxLen; omega) (by omega) ?_
          intro ao2 cap2 w10 Sc3
          rw [← pairsv_append] at Sc3
          refine hK.out _ _ (gat (Sc3.sel [2])) ?_
          clear hK K hHeld
          intro hHeld
          try simp only [Act.put, List.getElem_toArray, List.getElem_cons_zero, List.getElem_cons_succ, List.setIfInBounds_toArray, List.set_cons_zero, List.set_cons_succ]
          refine wpAnyH_two (i := 7) (j := 11) (Li := #[true, true, true, true, true, true, true, true, false, false, false, false, false, false]) (Lj := #[true, true, true, true, true, true, true, false, false, false, false, true, false, false]) (by kernel_rfl) rfl rfl (by kernel_rfl) (by kernel_rfl) ?_ ?_
          · intro K hK
            go_simp
            go_at_call 11
            refine (play_any Sc3 (fun w' h => HRD.out _ _ h) HN.out hnm cap fuel seed hsd (fun w' h => h.own_rd) (by rw [List.length_append, HM.out, HM2.out]) (by omega) HPA.out).mono ?_
            unfold Stepped
            rintro e w11 ⟨rfl, Sc4⟩
            rw [HPL2.out]
            go_wp2_with fail
            refine hK.out _ _ (gat (Sc4.sel [2])) ?_
            clear hK K hHeld
            intro hHeld
            try simp only [Act.put, List.getElem_toArray, List.getElem_cons_zero, List.getElem_cons_succ, List.setIfInBounds_toArray, List.set_cons_zero, List.set_cons_succ]
            refine wpAnyH_tk (i := 8) (v := ?_) (LN := #[true, true, true, true, true, true, true, true, true, false, false, false, false, false]) rfl (by kernel_rfl) (by kernel_rfl) (by kernel_rfl) (fun _ _ _ h => h) (by kernel_rfl) (by rfl) (by assumption) ?_ ?_
            rotate_left
            · intro w hSw; (try dsimp only at hSw); first | (go_simp; done) | (go_simp; with_reducible rfl)
            try simp only [Act.put, List.getElem_toArray, List.getElem_cons_zero, List.getElem_cons_succ, List.setIfInBounds_toArray, List.set_cons_zero, List.set_cons_succ]
            refine wpAnyH_tk (i := 9) (v := ?_) (LN := #[true, true, true, true, true, true, true, true, true, true, false, false, false, false]) rfl (by kernel_rfl) (by kernel_rfl) (by kernel_rfl) (fun _ _ _ h => h) (by kernel_rfl) (by rfl) (by assumption) ?_ ?_
            rotate_left
            · intro w hSw; (try dsimp only at hSw); first | (go_simp; done) | (go_simp; with_reducible rfl)
            try simp only [Act.put, List.getElem_toArray, List.getElem_cons_zero, List.getElem_cons_succ, List.setIfInBounds_toArray, List.set_cons_zero, List.set_cons_succ]
            refine wpAnyH_tk (i := 10) (v := ?_) (LN := #[true, true, true, true, true, true, true, true, true, true, true, false, false, false]) rfl (by kernel_rfl) (by kernel_rfl) (by kernel_rfl) (fun _ _ _ h => h) (by kernel_rfl) (by rfl) (by assumption) ?_ ?_
            rotate_left
            · intro w hSw; (try dsimp only at hSw); first | (go_simp; done) | (go_simp; with_reducible rfl)
            try simp only [Act.put, List.getElem_toArray, List.getElem_cons_zero, List.getElem_cons_succ, List.setIfInBounds_toArray, List.set_cons_zero, List.set_cons_succ]
            refine wpAnyH_one (i := 11) (LN := #[true, true, true, true, true, true, true, true, true, true, true, true, false, false]) (by kernel_rfl) rfl (by kernel_rfl) ?_
            intro K hK
            go_simp
            have Sc5 := (Sc4.alloc [.int .i64 0, .int .i32 0, .int .i32 0, .int .i32 0, .int .i32 0, .int .i32 0, .int .i32 0, .int .i32 0, .int .i32 0, .int .i32 0, .int .i32 0, .int .i32 0, .int .i32 0, .int .i32 0, .int .i32 0, .int .i32 0, .int .i32 0, .int .u32 0, .bool false, .int .i64 0] 31).swap
            try simp only [World.size_alloc] at Sc5
            refine hK.out _ _ (gat (Sc5.sel [3])) ?_
            clear hK K hHeld
            intro hHeld
            try simp only [Act.put, List.getElem_toArray, List.getElem_cons_zero, List.getElem_cons_succ, List.setIfInBounds_toArray, List.set_cons_zero, List.set_cons_succ]
            refine wpAnyH_one (i := 12) (LN := #[true, true, true, true, true, true, true, true, true, true, true, true, true, false]) (by kernel_rfl) rfl (by kernel_rfl) ?_
            intro K hK
            refine step_store_sat (off := 0) (n := 20) rfl 31 _ _ rfl Sc5.tail rfl rfl HBL.out (by decide) Try.sizeS (svals_one B) ?_
            intro w12 SF
            rw [zstore] at SF
            refine hK.out _ _ (gat (SF.sel [2])) ?_
            clear hK K hHeld
            intro hHeld
            try simp only [Act.put, List.getElem_toArray, List.getElem_cons_zero, List.getElem_cons_succ, List.setIfInBounds_toArray, List.set_cons_zero, List.set_cons_succ]
            refine wpAnyH_tk (i := 13) (v := ?_) (LN := #[true, true, true, true, true, true, true, true, true, true, true, true, true, true]) rfl (by kernel_rfl) (by kernel_rfl) (by kernel_rfl) (fun _ _ _ h => h) (by kernel_rfl) (by rfl) (by assumption) ?_ ?_
            rotate_left
            · intro w hSw; (try dsimp only at hSw); first | (go_simp; done) | (go_simp; with_reducible rfl)
            try simp only [Act.put, List.getElem_toArray, List.getElem_cons_zero, List.getElem_cons_succ, List.setIfInBounds_toArray, List.set_cons_zero, List.set_cons_succ]
            refine ⟨by kernel_rfl, ?_⟩
            try simp only [Act.put, List.getElem_toArray, List.getElem_cons_zero, List.getElem_cons_succ, List.setIfInBounds_toArray, List.set_cons_zero, List.set_cons_succ]
            go_wp2_with fail
            go_meet
            exact ⟨_, rfl, rfl, SF⟩
          · intro K hK
            go_simp
            have Sc4 := (Sc3.alloc [.int .i64 0, .int .i32 0, .int .i32 0, .int .i32 0, .int .i32 0, .int .i32 0, .int .i32 0, .int .i32 0, .int .i32 0, .int .i32 0, .int .i32 0, .int .i32 0, .int .i32 0, .int .i32 0, .int .i32 0, .int .i32 0, .int .i32 0, .int .u32 0, .bool false, .int .i64 0] 31).swap
            try simp only [World.size_alloc] at Sc4
            refine hK.out _ _ (gat (Sc4.sel [3])) ?_
            clear hK K hHeld
            intro hHeld
            try simp only [Act.put, List.getElem_toArray, List.getElem_cons_zero, List.getElem_cons_succ, List.setIfInBounds_toArray, List.set_cons_zero, List.set_cons_succ]
            refine wpAnyH_one (i := 7) (LN := #[true, true, true, true, true, true, true, true, false, false, false, true, false, false]) (by kernel_rfl) rfl (by kernel_rfl) ?_
            intro K hK
            go_simp
            go_at_call 11
            refine (play_any Sc4 (fun w' h => HRD.out _ _ h) HN.out hnm cap fuel seed hsd (fun w' h => h.own_rd) (by rw [List.length_append, HM.out, HM2.out]) (by omega) HPA.out).mono ?_
            unfold Stepped
            rintro e w11 ⟨rfl, Sc5⟩
            rw [HPL2.out]
            go_wp2_with fail
            refine hK.out _ _ (gat (Sc5.sel [3])) ?_
            clear hK K hHeld
            intro hHeld
            try simp only [Act.put, List.getElem_toArray, List.getElem_cons_zero, List.getElem_cons_succ, List.setIfInBounds_toArray, List.set_cons_zero, List.set_cons_succ]
            refine wpAnyH_tk (i := 8) (v := ?_) (LN := #[true, true, true, true, true, true, true, true, true, false, false, true, false, false]) rfl (by kernel_rfl) (by kernel_rfl) (by kernel_rfl) (fun _ _ _ h => h) (by kernel_rfl) (by rfl) (by assumption) ?_ ?_
            rotate_left
            · intro w hSw; (try dsimp only at hSw); first | (go_simp; done) | (go_simp; with_reducible rfl)
            try simp only [Act.put, List.getElem_toArray, List.getElem_cons_zero, List.getElem_cons_succ, List.setIfInBounds_toArray, List.set_cons_zero, List.set_cons_succ]
            refine wpAnyH_tk (i := 9) (v := ?_) (LN := #[true, true, true, true, true, true, true, true, true, true, false, true, false, false]) rfl (by kernel_rfl) (by kernel_rfl) (by kernel_rfl) (fun _ _ _ h => h) (by kernel_rfl) (by rfl) (by assumption) ?_ ?_
            rotate_left
            · intro w hSw; (try dsimp only at hSw); first | (go_simp; done) | (go_simp; with_reducible rfl)
            try simp only [Act.put, List.getElem_toArray, List.getElem_cons_zero, List.getElem_cons_succ, List.setIfInBounds_toArray, List.set_cons_zero, List.set_cons_succ]
            refine wpAnyH_tk (i := 10) (v := ?_) (LN := #[true, true, true, true, true, true, true, true, true, true, true, true, false, false]) rfl (by kernel_rfl) (by kernel_rfl) (by kernel_rfl) (fun _ _ _ h => h) (by kernel_rfl) (by rfl) (by assumption) ?_ ?_
            rotate_left
            · intro w hSw; (try dsimp only at hSw); first | (go_simp; done) | (go_simp; with_reducible rfl)
            try simp only [Act.put, List.getElem_toArray, List.getElem_cons_zero, List.getElem_cons_succ, List.setIfInBounds_toArray, List.set_cons_zero, List.set_cons_succ]
            refine wpAnyH_one (i := 12) (LN := #[true, true, true, true, true, true, true, true, true, true, true, true, true, false]) (by kernel_rfl) rfl (by kernel_rfl) ?_
            intro K hK
            refine step_store_sat (off := 0) (n := 20) rfl 31 _ _ rfl Sc5.tail rfl rfl HBL.out (by decide) Try.sizeS (svals_one B) ?_
            intro w12 SF
            rw [zstore] at SF
            refine hK.out _ _ (gat (SF.sel [2])) ?_
            clear hK K hHeld
            intro hHeld
            try simp only [Act.put, List.getElem_toArray, List.getElem_cons_zero, List.getElem_cons_succ, List.setIfInBounds_toArray, List.set_cons_zero, List.set_cons_succ]
            refine wpAnyH_tk (i := 13) (v := ?_) (LN := #[true, true, true, true, true, true, true, true, true, true, true, true, true, true]) rfl (by kernel_rfl) (by kernel_rfl) (by kernel_rfl) (fun _ _ _ h => h) (by kernel_rfl) (by rfl) (by assumption) ?_ ?_
            rotate_left
            · intro w hSw; (try dsimp only at hSw); first | (go_simp; done) | (go_simp; with_reducible rfl)
            try simp only [Act.put, List.getElem_toArray, List.getElem_cons_zero, List.getElem_cons_succ, List.setIfInBounds_toArray, List.set_cons_zero, List.set_cons_succ]
            refine ⟨by kernel_rfl, ?_⟩
            try simp only [Act.put, List.getElem_toArray, List.getElem_cons_zero, List.getElem_cons_succ, List.setIfInBounds_toArray, List.set_cons_zero, List.set_cons_succ]
            go_wp2_with fail
            go_meet
            exact ⟨_, rfl, rfl, SF⟩
        · intro K hK
          go_simp
          have Sc3 := (Sc2.alloc [.int .i64 0, .int .i32 0, .int .i32 0, .int .i32 0, .int .i32 0, .int .i32 0, .int .i32 0, .int .i32 0, .int .i32 0, .int .i32 0, .int .i32 0, .int .i32 0, .int .i32 0, .int .i32 0, .int .i32 0, .int .i32 0, .int .i32 0, .int .u32 0, .bool false, .int .i64 0] 31).swap
          try simp only [World.size_alloc] at Sc3
          refine hK.out _ _ (gat (Sc3.sel [3])) ?_
          clear hK K hHeld
          intro hHeld
          try simp only [Act.put, List.getElem_toArray, List.getElem_cons_zero, List.getElem_cons_succ, List.setIfInBounds_toArray, List.set_cons_zero, List.set_cons_succ]
          refine wpAnyH_one (i := 6) (LN := #[true, true, true, true, true, true, true, false, false, false, false, true, false, false]) (by kernel_rfl) rfl (by kernel_rfl) ?_
          intro K hK
          refine step_append_sat rfl _ _ _ rfl 39 i0 _ 2 4 Try.underlying26 hi hz0 hz1 hz2 rfl (by decide) Sc3 rfl rfl (HRB2.out _ _ Sc3) (by rw [pairsv_length, HM2.out]) (pairsv_one _) (by unfold maxLen; omega) (by omega) ?_
          intro ao2 cap2 w10 Sc4
          rw [← pairsv_append] at Sc4
          refine hK.out _ _ (gat (Sc4.sel [3])) ?_
          clear hK K hHeld
          intro hHeld
          try simp only [Act.put, List.getElem_toArray, List.getElem_cons_zero, List.getElem_cons_succ, List.setIfInBounds_toArray, List.set_cons_zero, List.set_cons_succ]
          refine wpAnyH_one (i := 7) (LN := #[true, true, true, true, true, true, true, true, false, false, false, true, false, false]) (by kernel_rfl) rfl (by kernel_rfl) ?_
          intro K hK
          go_simp
          go_at_call 11
          refine (play_any Sc4 (fun w' h => HRD.out _ _ h) HN.out hnm cap fuel seed hsd (fun w' h => h.own_rd) (by rw [List.length_append, HM.out, HM2.out]) (by omega) HPA.out).mono ?_
          unfold Stepped
          rintro e w11 ⟨rfl, Sc5⟩
          rw [HPL2.out]
          go_wp2_with fail
          refine hK.out _ _ (gat (Sc5.sel [3])) ?_
          clear hK K hHeld
          intro hHeld
          try simp only [Act.put, List.getElem_toArray, List.getElem_cons_zero, List.getElem_cons_succ, List.setIfInBounds_toArray, List.set_cons_zero, List.set_cons_succ]
          refine wpAnyH_tk (i := 8) (v := ?_) (LN := #[true, true, true, true, true, true, true, true, true, false, false, true, false, false]) rfl (by kernel_rfl) (by kernel_rfl) (by kernel_rfl) (fun _ _ _ h => h) (by kernel_rfl) (by rfl) (by assumption) ?_ ?_
          rotate_left
          · intro w hSw; (try dsimp only at hSw); first | (go_simp; done) | (go_simp; with_reducible rfl)
          try simp only [Act.put, List.getElem_toArray, List.getElem_cons_zero, List.getElem_cons_succ, List.setIfInBounds_toArray, List.set_cons_zero, List.set_cons_succ]
          refine wpAnyH_tk (i := 9) (v := ?_) (LN := #[true, true, true, true, true, true, true, true, true, true, false, true, false, false]) rfl (by kernel_rfl) (by kernel_rfl) (by kernel_rfl) (fun _ _ _ h => h) (by kernel_rfl) (by rfl) (by assumption) ?_ ?_
          rotate_left
          · intro w hSw; (try dsimp only at hSw); first | (go_simp; done) | (go_simp; with_reducible rfl)
          try simp only [Act.put, List.getElem_toArray, List.getElem_cons_zero, List.getElem_cons_succ, List.setIfInBounds_toArray, List.set_cons_zero, List.set_cons_succ]
          refine wpAnyH_tk (i := 10) (v := ?_) (LN := #[true, true, true, true, true, true, true, true, true, true, true, true, false, false]) rfl (by kernel_rfl) (by kernel_rfl) (by kernel_rfl) (fun _ _ _ h => h) (by kernel_rfl) (by rfl) (by assumption) ?_ ?_
          rotate_left
          · intro w hSw; (try dsimp only at hSw); first | (go_simp; done) | (go_simp; with_reducible rfl)
          try simp only [Act.put, List.getElem_toArray, List.getElem_cons_zero, List.getElem_cons_succ, List.setIfInBounds_toArray, List.set_cons_zero, List.set_cons_succ]
          refine wpAnyH_one (i := 12) (LN := #[true, true, true, true, true, true, true, true, true, true, true, true, true, false]) (by kernel_rfl) rfl (by kernel_rfl) ?_
          intro K hK
          refine step_store_sat (off := 0) (n := 20) rfl 31 _ _ rfl Sc5.tail rfl rfl HBL.out (by decide) Try.sizeS (svals_one B) ?_
          intro w12 SF
          rw [zstore] at SF
          refine hK.out _ _ (gat (SF.sel [2])) ?_
          clear hK K hHeld
          intro hHeld
          try simp only [Act.put, List.getElem_toArray, List.getElem_cons_zero, List.getElem_cons_succ, List.setIfInBounds_toArray, List.set_cons_zero, List.set_cons_succ]
          refine wpAnyH_tk (i := 13) (v := ?_) (LN := #[true, true, true, true, true, true, true, true, true, true, true, true, true, true]) rfl (by kernel_rfl) (by kernel_rfl) (by kernel_rfl) (fun _ _ _ h => h) (by kernel_rfl) (by rfl) (by assumption) ?_ ?_
          rotate_left
          · intro w hSw; (try dsimp only at hSw); first | (go_simp; done) | (go_simp; with_reducible rfl)
          try simp only [Act.put, List.getElem_toArray, List.getElem_cons_zero, List.getElem_cons_succ, List.setIfInBounds_toArray, List.set_cons_zero, List.set_cons_succ]
          refine ⟨by kernel_rfl, ?_⟩
          try simp only [Act.put, List.getElem_toArray, List.getElem_cons_zero, List.getElem_cons_succ, List.setIfInBounds_toArray, List.set_cons_zero, List.set_cons_succ]
          go_wp2_with fail
          go_meet
          exact ⟨_, rfl, rfl, SF⟩
      · intro K hK
        go_simp
        have Sc2 := (Sc1.alloc [.int .i64 0, .int .i32 0, .int .i32 0, .int .i32 0, .int .i32 0, .int .i32 0, .int .i32 0, .int .i32 0, .int .i32 0, .int .i32 0, .int .i32 0, .int .i32 0, .int .i32 0, .int .i32 0, .int .i32 0, .int .i32 0, .int .i32 0, .int .u32 0, .bool false, .int .i64 0] 31).swap
        try simp only [World.size_alloc] at Sc2
        refine hK.out _ _ (gat (Sc2.sel [3])) ?_
        clear hK K hHeld
        intro hHeld
        try simp only [Act.put, List.getElem_toArray, List.getElem_cons_zero, List.getElem_cons_succ, List.setIfInBounds_toArray, List.set_cons_zero, List.set_cons_succ]
        refine wpAnyH_one (i := 4) (LN := #[true, true, true, true, true, true, false, false, false, false, false, true, false, false]) (by kernel_rfl) rfl (by kernel_rfl) ?_
        intro K hK
        refine step_append_sat rfl _ _ _ rfl 39 i0 _ 2 4 Try.underlying26 hi hz0 hz1 hz2 rfl (by decide) Sc2 rfl rfl (HRB.out _ _ Sc2) (by rw [pairsv_length, HM.out]) (pairsv_one _) (by unfold maxLen; omega) (by omega) ?_
        intro ao1 cap1 w9 Sc3
        simp only [Nat.zero_add, List.nil_append] at Sc3 ⊢
        refine hK.out _ _ (gat (Sc3.sel [3])) ?_
        clear hK K hHeld
        intro hHeld
        try simp only [Act.put, List.getElem_toArray, List.getElem_cons_zero, List.getElem_cons_succ, List.setIfInBounds_toArray, List.set_cons_zero, List.set_cons_succ]
        refine wpAnyH_one (i := 6) (LN := #[true, true, true, true, true, true, true, false, false, false, false, true, false, false]) (by kernel_rfl) rfl (by kernel_rfl) ?_
        intro K hK
        refine step_append_sat rfl _ _ _ rfl 39 i0 _ 2 4 Try.underlying26 hi hz0 hz1 hz2 rfl (by decide) Sc3 rfl rfl (HRB2.out _ _ Sc3) (by rw [pairsv_length, HM2.out]) (pairsv_one _) (by unfold maxLen; omega) (by omega) ?_
        intro ao2 cap2 w10 Sc4
        rw [← pairsv_append] at Sc4
        refine hK.out _ _ (gat (Sc4.sel [3])) ?_
        clear hK K hHeld
        intro hHeld
        try simp only [Act.put, List.getElem_toArray, List.getElem_cons_zero, List.getElem_cons_succ, List.setIfInBounds_toArray, List.set_cons_zero, List.set_cons_succ]
        refine wpAnyH_one (i := 7) (LN := #[true, true, true, true, true, true, true, true, false, false, false, true, false, false]) (by kernel_rfl) rfl (by kernel_rfl) ?_
        intro K hK
        go_simp
        go_at_call 11
        refine (play_any Sc4 (fun w' h => HRD.out _ _ h) HN.out hnm cap fuel seed hsd (fun w' h => h.own_rd) (by rw [List.length_append, HM.out, HM2.out]) (by omega) HPA.out).mono ?_
        unfold Stepped
        rintro e w11 ⟨rfl, Sc5⟩
        rw [HPL2.out]
        go_wp2_with fail
        refine hK.out _ _ (gat (Sc5.sel [3])) ?_
        clear hK K hHeld
        intro hHeld
        try simp only [Act.put, List.getElem_toArray, List.getElem_cons_zero, List.getElem_cons_succ, List.setIfInBounds_toArray, List.set_cons_zero, List.set_cons_succ]
        refine wpAnyH_tk (i := 8) (v := ?_) (LN := #[true, true, true, true, true, true, true, true, true, false, false, true, false, false]) rfl (by kernel_rfl) (by kernel_rfl) (by kernel_rfl) (fun _ _ _ h => h) (by kernel_rfl) (by rfl) (by assumption) ?_ ?_
        rotate_left
        · intro w hSw; (try dsimp only at hSw); first | (go_simp; done) | (go_simp; with_reducible rfl)
        try simp only [Act.put, List.getElem_toArray, List.getElem_cons_zero, List.getElem_cons_succ, List.setIfInBounds_toArray, List.set_cons_zero, List.set_cons_succ]
        refine wpAnyH_tk (i := 9) (v := ?_) (LN := #[true, true, true, true, true, true, true, true, true, true, false, true, false, false]) rfl (by kernel_rfl) (by kernel_rfl) (by kernel_rfl) (fun _ _ _ h => h) (by kernel_rfl) (by rfl) (by assumption) ?_ ?_
        rotate_left
        · intro w hSw; (try dsimp only at hSw); first | (go_simp; done) | (go_simp; with_reducible rfl)
        try simp only [Act.put, List.getElem_toArray, List.getElem_cons_zero, List.getElem_cons_succ, List.setIfInBounds_toArray, List.set_cons_zero, List.set_cons_succ]
        refine wpAnyH_tk (i := 10) (v := ?_) (LN := #[true, true, true, true, true, true, true, true, true, true, true, true, false, false]) rfl (by kernel_rfl) (by kernel_rfl) (by kernel_rfl) (fun _ _ _ h => h) (by kernel_rfl) (by rfl) (by assumption) ?_ ?_
        rotate_left
        · intro w hSw; (try dsimp only at hSw); first | (go_simp; done) | (go_simp; with_reducible rfl)
        try simp only [Act.put, List.getElem_toArray, List.getElem_cons_zero, List.getElem_cons_succ, List.setIfInBounds_toArray, List.set_cons_zero, List.set_cons_succ]
        refine wpAnyH_one (i := 12) (LN := #[true, true, true, true, true, true, true, true, true, true, true, true, true, false]) (by kernel_rfl) rfl (by kernel_rfl) ?_
        intro K hK
        refine step_store_sat (off := 0) (n := 20) rfl 31 _ _ rfl Sc5.tail rfl rfl HBL.out (by decide) Try.sizeS (svals_one B) ?_
        intro w12 SF
        rw [zstore] at SF
        refine hK.out _ _ (gat (SF.sel [2])) ?_
        clear hK K hHeld
        intro hHeld
        try simp only [Act.put, List.getElem_toArray, List.getElem_cons_zero, List.getElem_cons_succ, List.setIfInBounds_toArray, List.set_cons_zero, List.set_cons_succ]
        refine wpAnyH_tk (i := 13) (v := ?_) (LN := #[true, true, true, true, true, true, true, true, true, true, true, true, true, true]) rfl (by kernel_rfl) (by kernel_rfl) (by kernel_rfl) (fun _ _ _ h => h) (by kernel_rfl) (by rfl) (by assumption) ?_ ?_
        rotate_left
        · intro w hSw; (try dsimp only at hSw); first | (go_simp; done) | (go_simp; with_reducible rfl)
        try simp only [Act.put, List.getElem_toArray, List.getElem_cons_zero, List.getElem_cons_succ, List.setIfInBounds_toArray, List.set_cons_zero, List.set_cons_succ]
        refine ⟨by kernel_rfl, ?_⟩
        try simp only [Act.put, List.getElem_toArray, List.getElem_cons_zero, List.getElem_cons_succ, List.setIfInBounds_toArray, List.set_cons_zero, List.set_cons_succ]
        go_wp2_with fail
        go_meet
        exact ⟨_, rfl, rfl, SF⟩
    · intro K hK
      go_simp
      have Sc1 := (S8.alloc [.int .i64 0, .int .i32 0, .int .i32 0, .int .i32 0, .int .i32 0, .int .i32 0, .int .i32 0, .int .i32 0, .int .i32 0, .int .i32 0, .int .i32 0, .int .i32 0, .int .i32 0, .int .i32 0, .int .i32 0, .int .i32 0, .int .i32 0, .int .u32 0, .bool false, .int .i64 0] 31)
      try simp only [World.size_alloc] at Sc1
      refine hK.out _ _ (gat (Sc1.sel [2])) ?_
      clear hK K hHeld
      intro hHeld
      try simp only [Act.put, List.getElem_toArray, List.getElem_cons_zero, List.getElem_cons_succ, List.setIfInBounds_toArray, List.set_cons_zero, List.set_cons_succ]
      refine wpAnyH_one (i := 2) (LN := #[true, true, true, true, false, true, false, false, false, false, false, true, false, false]) (by kernel_rfl) rfl (by kernel_rfl) ?_
      intro K hK
      go_simp
      have Sc2 := Sat.own_new (n := 0) (cap := 0) (size := 2) (xs := []) (post := []) (Sc1.alloc [] 39) rfl (Nat.le_refl _) (by unfold maxLen; omega) (by simp)
      try simp only [World.size_alloc] at Sc2
      refine hK.out _ _ (gat (Sc2.sel [3])) ?_
      clear hK K hHeld
      intro hHeld
      try simp only [Act.put, List.getElem_toArray, List.getElem_cons_zero, List.getElem_cons_succ, List.setIfInBounds_toArray, List.set_cons_zero, List.set_cons_succ]
      refine wpAnyH_one (i := 4) (LN := #[true, true, true, true, true, true, false, false, false, false, false, true, false, false]) (by kernel_rfl) rfl (by kernel_rfl) ?_
      intro K hK
      refine step_append_sat rfl _ _ _ rfl 39 i0 _ 2 4 Try.underlying26 hi hz0 hz1 hz2 rfl (by decide) Sc2 rfl rfl (HRB.out _ _ Sc2) (by rw [pairsv_length, HM.out]) (pairsv_one _) (by unfold maxLen; omega) (by omega) ?_
      intro ao1 cap1 w9 Sc3
      simp only [Nat.zero_add, List.nil_append] at Sc3 ⊢
      refine hK.out _ _ (gat (Sc3.sel [3])) ?_
      clear hK K hHeld
      intro hHeld
      try simp only [Act.put, List.getElem_toArray, List.getElem_cons_zero, List.getElem_cons_succ, List.setIfInBounds_toArray, List.set_cons_zero, List.set_cons_succ]
      refine wpAnyH_one (i := 6) (LN := #[true, true, true, true, true, true, true, false, false, false, false, true, false, false]) (by kernel_rfl) rfl (by kernel_rfl) ?_
      intro K hK
      refine step_append_sat rfl _ _ _ rfl 39 i0 _ 2 4 Try.underlying26 hi hz0 hz1 hz2 rfl (by decide) Sc3 rfl rfl (HRB2.out _ _ Sc3) (by rw [pairsv_length, HM2.out]) (pairsv_one _) (by unfold maxLen; omega) (by omega) ?_
      intro ao2 cap2 w10 Sc4
      rw [← pairsv_append] at Sc4
      refine hK.out _ _ (gat (Sc4.sel [3])) ?_
      clear hK K hHeld
      intro hHeld
      try simp only [Act.put, List.getElem_toArray, List.getElem_cons_zero, List.getElem_cons_succ, List.setIfInBounds_toArray, List.set_cons_zero, List.set_cons_succ]
      refine wpAnyH_one (i := 7) (LN := #[true, true, true, true, true, true, true, true, false, false, false, true, false, false]) (by kernel_rfl) rfl (by kernel_rfl) ?_
      intro K hK
      go_simp
      go_at_call 11
      refine (play_any Sc4 (fun w' h => HRD.out _ _ h) HN.out hnm cap fuel seed hsd (fun w' h => h.own_rd) (by rw [List.length_append, HM.out, HM2.out]) (by omega) HPA.out).mono ?_
      unfold Stepped
      rintro e w11 ⟨rfl, Sc5⟩
      rw [HPL2.out]
      go_wp2_with fail
      refine hK.out _ _ (gat (Sc5.sel [3])) ?_
      clear hK K hHeld
      intro hHeld
      try simp only [Act.put, List.getElem_toArray, List.getElem_cons_zero, List.getElem_cons_succ, List.setIfInBounds_toArray, List.set_cons_zero, List.set_cons_succ]
      refine wpAnyH_tk (i := 8) (v := ?_) (LN := #[true, true, true, true, true, true, true, true, true, false, false, true, false, false]) rfl (by kernel_rfl) (by kernel_rfl) (by kernel_rfl) (fun _ _ _ h => h) (by kernel_rfl) (by rfl) (by assumption) ?_ ?_
      rotate_left
      · intro w hSw; (try dsimp only at hSw); first | (go_simp; done) | (go_simp; with_reducible rfl)
      try simp only [Act.put, List.getElem_toArray, List.getElem_cons_zero, List.getElem_cons_succ, List.setIfInBounds_toArray, List.set_cons_zero, List.set_cons_succ]
      refine wpAnyH_tk (i := 9) (v := ?_) (LN := #[true, true, true, true, true, true, true, true, true, true, false, true, false, false]) rfl (by kernel_rfl) (by kernel_rfl) (by kernel_rfl) (fun _ _ _ h => h) (by kernel_rfl) (by rfl) (by assumption) ?_ ?_
      rotate_left
      · intro w hSw; (try dsimp only at hSw); first | (go_simp; done) | (go_simp; with_reducible rfl)
      try simp only [Act.put, List.getElem_toArray, List.getElem_cons_zero, List.getElem_cons_succ, List.setIfInBounds_toArray, List.set_cons_zero, List.set_cons_succ]
      refine wpAnyH_tk (i := 10) (v := ?_) (LN := #[true, true, true, true, true, true, true, true, true, true, true, true, false, false]) rfl (by kernel_rfl) (by kernel_rfl) (by kernel_rfl) (fun _ _ _ h => h) (by kernel_rfl) (by rfl) (by assumption) ?_ ?_
      rotate_left
      · intro w hSw; (try dsimp only at hSw); first | (go_simp; done) | (go_simp; with_reducible rfl)
      try simp only [Act.put, List.getElem_toArray, List.getElem_cons_zero, List.getElem_cons_succ, List.setIfInBounds_toArray, List.set_cons_zero, List.set_cons_succ]
      refine wpAnyH_one (i := 12) (LN := #[true, true, true, true, true, true, true, true, true, true, true, true, true, false]) (by kernel_rfl) rfl (by kernel_rfl) ?_
      intro K hK
      refine step_store_sat (off := 0) (n := 20) rfl 31 _ _ rfl Sc5.tail rfl rfl HBL.out (by decide) Try.sizeS (svals_one B) ?_
      intro w12 SF
      rw [zstore] at SF
      refine hK.out _ _ (gat (SF.sel [2])) ?_
      clear hK K hHeld
      intro hHeld
      try simp only [Act.put, List.getElem_toArray, List.getElem_cons_zero, List.getElem_cons_succ, List.setIfInBounds_toArray, List.set_cons_zero, List.set_cons_succ]
      refine wpAnyH_tk (i := 13) (v := ?_) (LN := #[true, true, true, true, true, true, true, true, true, true, true, true, true, true]) rfl (by kernel_rfl) (by kernel_rfl) (by kernel_rfl) (fun _ _ _ h => h) (by kernel_rfl) (by rfl) (by assumption) ?_ ?_
      rotate_left
      · intro w hSw; (try dsimp only at hSw); first | (go_simp; done) | (go_simp; with_reducible rfl)
      try simp only [Act.put, List.getElem_toArray, List.getElem_cons_zero, List.getElem_cons_succ, List.setIfInBounds_toArray, List.set_cons_zero, List.set_cons_succ]
      refine ⟨by kernel_rfl, ?_⟩
      try simp only [Act.put, List.getElem_toArray, List.getElem_cons_zero, List.getElem_cons_succ, List.setIfInBounds_toArray, List.set_cons_zero, List.set_cons_succ]
      go_wp2_with fail
      go_meet
      exact ⟨_, rfl, rfl, SF⟩
  case rest =>
    obtain ⟨y, rfl, rfl, S9⟩ := hcut
    clear S7 S8
    have hao := HGA.out.ok
    have hbo := HGB.out.ok
    have h18 := (st_at hao.len S9.tail).over
    have h0 := (st_at hao.len S9.tail).frame
    have k0 := (st_at hbo.len S9).frame
    have g9 := gat S9.tail.tail
    have hfr := HFR.out
    have hcap := HGB.out.frame.2
    have hge : decide (A.frame ≤ B.frame) = true := decide_eq_true hfr
    have hle : decide (B.frame ≤ cap) = true := decide_eq_true hcap
    have HEQ := Lib.hid (fun w' => (run_eql_state (s := B) (t := B) w' hbo.len hbo.len).trans (by rw [decide_eq_true rfl]))
    cases ho : A.over with
    | true =>
      obtain rfl := HOV.out ho
      rw [ho] at h18
      clear HOV hao
      go_wp2_with (first
        | (refine wpList_load_guard (by rfl) 31 _ rfl (n := 20) rfl (Sat.whole (S9.sel [1]) 20) HAL.out Try.underlying31 rfl Try.sizeS ?_)
        | (refine wpList_load_guard (by rfl) 31 _ rfl (n := 20) rfl (Sat.whole S9 20) HBL.out Try.underlying31 rfl Try.sizeS ?_)
        | (refine wpList_eq_agg (by rfl) .eql 31 _ _ rfl (r := true) rfl rfl (by kernel_rfl) (HEQ.out _) ?_)
        | (go_at_call 13; refine (dknown_any S9).mono ?_; rintro e w10 ⟨rfl, S10⟩))
      go_ret
      exact ⟨rfl, S10.below⟩
    | false =>
      rw [ho] at h18
      clear HOV hao
      go_wp2_with (first
        | (go_at_call 13; refine (dknown_any S9).mono ?_; rintro e w10 ⟨rfl, S10⟩))
      go_ret
      exact ⟨rfl, S10.below⟩
end Go.Proofs.Ytpcffejanlokiaa
