/-
  The law DuelGoes, walked.
-/
import Derived.Test.YtpcffejanlokiaaDu7
namespace Go.Proofs.Ytpcffejanlokiaa
open Go.RowKit Go.Sep Go.Vm
set_option linter.unusedSimpArgs false

set_option maxRecDepth 100000 in
set_option maxHeartbeats 6400000 in
theorem DuelGoes_walk {w : World} {a : Option Addr} {n c : Nat} {code : List (Int × Int)} (hR : Rd w a (insv code)) (hn : code.length = n) (hnm : n ≤ maxLen) (cap fuel : Int) (seed : Int) (hsd : 0 ≤ seed ∧ seed < 4294967296)
    {b : Option Addr} {m d : Nat} {ps : List (Int × Int)} (hRb : Rd w b (pairsv ps)) (hm : ps.length = m) (hmm : m ≤ maxLen) (hmd : m ≤ d) (hpb : ∀ x ∈ ps, (0 ≤ x.1 ∧ x.1 < 65536) ∧ (0 ≤ x.2 ∧ x.2 < 65536)) (at0 : Int) :
    Calls Try.prog 3 #[.agg #[.slice a n c, .int .i64 cap, .int .i64 fuel], .int .u32 seed, .slice b m d, .int .i64 at0] w fun e w' => e = .returned (.bool true) ∧ Below w.heap.size w w' := by
  have S0 := Sat.start w
  have S1 := S0.alloc [.slice a n c, .int .i64 cap, .int .i64 fuel] 24
  have c0 := S1.cell 0 rfl 0
  simp only [List.getElem?_cons_zero] at c0
  have HN := Lib.hid hn
  have HM := Lib.hid hm
  have HRD := Lib.hid (fun (L : List Asn) (w' : World) (h : Sat w w' L) => hR.below h.below)
  have HRB := Lib.hid (fun (L : List Asn) (w' : World) (h : Sat w w' L) => hRb.below h.below)
  have HPB := Lib.hid hpb
  clear hn hm hR hRb hpb
  by_cases hbig : 300 < n ∨ 100 < m
  · have hh : (decide (300 < n) || decide (100 < m)) = true := by simpa using hbig
    have HH := Lib.hid hh
    clear hh hbig
    go_enter Try.func3, Try.ntmps3
    go_wp2_with (go_at_call 9; refine (heavy_any S1 a b n c m d cap fuel hnm hmm HH.out).mono ?_; rintro e w2 ⟨rfl, S2⟩)
    go_ret
    exact ⟨rfl, S2.below⟩
  have hh : (decide (300 < n) || decide (100 < m)) = false := by simpa using hbig
  have HH := Lib.hid hh
  have hn300 : n ≤ 300 := by omega
  have hm100 : m ≤ 100 := by omega
  have hm9 : m ≤ 900 := by omega
  clear hbig hh
  by_cases hck : checkP code cap fuel = 0
  case neg =>
    obtain ⟨ck, hk⟩ : ∃ ck, checkP code cap fuel = ck := ⟨_, rfl⟩
    have hz : (ck != 0) = true := by rw [← hk]; simpa using hck
    have HK := Lib.hid hk
    clear hk hck
    go_enter Try.func3, Try.ntmps3
    go_wp2_with (first
      | (go_at_call 9; refine (heavy_any S1 a b n c m d cap fuel hnm hmm HH.out).mono ?_; rintro e w2 ⟨rfl, S2⟩; have g2 := gat S2)
      | (go_at_call 10; refine (r10check_any S2 (fun w' h => HRD.out _ _ h) HN.out hnm cap fuel).mono ?_; rintro e w3 ⟨rfl, S3⟩; rw [HK.out]))
    go_ret
    exact ⟨rfl, S3.below⟩
  have HK := Lib.hid hck
  clear hck
  have hat := mask16 at0
  go_enter Try.func3, Try.ntmps3
  go_wp2_with (first
    | (go_at_call 9; refine (heavy_any S1 a b n c m d cap fuel hnm hmm HH.out).mono ?_; rintro e w2 ⟨rfl, S2⟩; have g2 := gat S2)
    | (go_at_call 10; refine (r10check_any S2 (fun w' h => HRD.out _ _ h) HN.out hnm cap fuel).mono ?_; rintro e w3 ⟨rfl, S3⟩; rw [HK.out]; have g3 := gat S3))
  obtain ⟨k, hk⟩ : ∃ k : Nat, at0 % 65536 % ((m : Int) + 1) = (k : Int) := ⟨(at0 % 65536 % ((m : Int) + 1)).toNat, by have := Int.emod_nonneg (at0 % 65536) (show ((m : Int) + 1) ≠ 0 by omega); omega⟩
  have hkm : k ≤ m := by have := Int.emod_lt_of_pos (at0 % 65536) (show (0 : Int) < (m : Int) + 1 by omega); omega
  rw [hk]
  have hkm' : (k : Int) ≤ (m : Int) := by omega
  have hkd : k ≤ d := by omega
  have k0 : (0 : Int) ≤ (k : Int) := Int.natCast_nonneg _
  have HGO := Lib.hid (goes_start HK.out hsd)
  have HTK : Hid (∀ x ∈ ps.take k, (0 ≤ x.1 ∧ x.1 < 65536) ∧ (0 ≤ x.2 ∧ x.2 < 65536)) := fun x hx => HPB.out x (List.mem_of_mem_take hx)
  have HTL : Hid ((ps.take k).length = k) := by show _ = _; rw [List.length_take, HM.out]; omega
  have hpl := playP_fold (code := code) (cap := cap) (fuel := fuel) (seed := seed) (ps := ps.take k) HK.out
  have hgt := foldP_goes HK.out (ps.take k) _ HGO.out HTK.out
  have HF0 : Hid (foldP code cap fuel (VS.start seed) (ps.take k) = foldP code cap fuel (VS.start seed) (ps.take k)) := rfl
  obtain ⟨A, hA⟩ : ∃ A, foldP code cap fuel (VS.start seed) (ps.take k) = A := ⟨_, rfl⟩
  rw [hA] at hpl hgt
  have HPL := Lib.hid hpl
  have HA := Lib.hid hA
  have HGA := Lib.hid hgt
  have HAL := Lib.hid (svals_length hgt.ok.len)
  clear hpl hA hgt HF0
  have S4 := S3.drew
  have g4 := gat S4
  go_cut [10, 11] (fun v2 v3 wx => ∃ y, v2 = .pointer (some ⟨y, 0, none⟩) ∧ v3 = .int .i64 0 ∧ Sat w wx (blk y (svals A) 31 :: blk w.heap.size [.slice a n c, .int .i64 cap, .int .i64 fuel] 24 :: []))
  case first =>
    refine wp_region_drawn (N := 12) (LN := #[false, false, false, false, false, false, false, false, false, false, false, false]) (by kernel_rfl) (by kernel_rfl) (by kernel_rfl) ?_
    refine wpAny_held (fun w' => w'.cell? ⟨w.heap.size, 0, none⟩ = some (.slice a n c) ∧ w'.cell? ⟨w.heap.size, 1, none⟩ = some (.int .i64 cap) ∧ w'.cell? ⟨w.heap.size, 2, none⟩ = some (.int .i64 fuel)) g4 (fun hHeld => ?_)
    refine wpAnyH_tk (i := 0) (v := ?_) (LN := #[true, false, false, false, false, false, false, false, false, false, false, false]) rfl (by kernel_rfl) (by kernel_rfl) (by kernel_rfl) (fun _ _ _ h => h) (by kernel_rfl) (by rfl) (by assumption) ?_ ?_
    rotate_left
    · intro w hSw; (try dsimp only at hSw); first | (go_simp; done) | (go_simp; with_reducible rfl)
    try simp only [Act.put, List.getElem_toArray, List.getElem_cons_zero, List.getElem_cons_succ, List.setIfInBounds_toArray, List.set_cons_zero, List.set_cons_succ]
    refine wpAnyH_tk (i := 1) (v := ?_) (LN := #[true, true, false, false, false, false, false, false, false, false, false, false]) rfl (by kernel_rfl) (by kernel_rfl) (by kernel_rfl) (fun _ _ _ h => h) (by kernel_rfl) (by rfl) (by assumption) ?_ ?_
    rotate_left
    · intro w hSw; (try dsimp only at hSw); first | (go_simp; done) | (go_simp; with_reducible rfl)
    try simp only [Act.put, List.getElem_toArray, List.getElem_cons_zero, List.getElem_cons_succ, List.setIfInBounds_toArray, List.set_cons_zero, List.set_cons_succ]
    refine wpAnyH_tk (i := 2) (v := ?_) (LN := #[true, true, true, false, false, false, false, false, false, false, false, false]) rfl (by kernel_rfl) (by kernel_rfl) (by kernel_rfl) (fun _ _ _ h => h) (by kernel_rfl) (by rfl) (by assumption) ?_ ?_
    rotate_left
    · intro w hSw; (try dsimp only at hSw); first | (go_simp; done) | (go_simp; with_reducible rfl)
    try simp only [Act.put, List.getElem_toArray, List.getElem_cons_zero, List.getElem_cons_succ, List.setIfInBounds_toArray, List.set_cons_zero, List.set_cons_succ]
    refine wpAnyH_tk (i := 3) (v := ?_) (LN := #[true, true, true, true, false, false, false, false, false, false, false, false]) rfl (by kernel_rfl) (by kernel_rfl) (by kernel_rfl) (fun _ _ _ h => h) (by kernel_rfl) (by rfl) (by assumption) ?_ ?_
    rotate_left
    · intro w hSw; (try dsimp only at hSw); first | (go_simp; done) | (go_simp; with_reducible rfl)
    try simp only [Act.put, List.getElem_toArray, List.getElem_cons_zero, List.getElem_cons_succ, List.setIfInBounds_toArray, List.set_cons_zero, List.set_cons_succ]
    refine wpAnyH_tk (i := 4) (v := ?_) (LN := #[true, true, true, true, true, false, false, false, false, false, false, false]) rfl (by kernel_rfl) (by kernel_rfl) (by kernel_rfl) (fun _ _ _ h => h) (by kernel_rfl) (by rfl) (by assumption) ?_ ?_
    rotate_left
    · intro w hSw; (try dsimp only at hSw); first | (go_simp; done) | (go_simp; with_reducible rfl)
    try simp only [Act.put, List.getElem_toArray, List.getElem_cons_zero, List.getElem_cons_succ, List.setIfInBounds_toArray, List.set_cons_zero, List.set_cons_succ]
    refine wpAnyH_two (i := 5) (j := 9) (Li := #[true, true, true, true, true, true, false, false, false, false, false, false]) (Lj := #[true, true, true, true, true, false, false, false, false, true, false, false]) (by kernel_rfl) rfl rfl (by kernel_rfl) (by kernel_rfl) ?_ ?_
    · intro K hK
      go_simp
      go_at_call 11
      refine (play_any S4 (fun w' h => HRD.out _ _ h) HN.out hnm cap fuel seed hsd (fun w' h => pairs_take k ▸ (HRB.out _ _ h).take _) HTL.out (by omega) HTK.out).mono ?_
      unfold Stepped
      rintro e w5 ⟨rfl, S5⟩
      rw [HPL.out]
      go_wp2_with fail
      refine hK.out _ _ (gat S5) ?_
      clear hK K hHeld
      intro hHeld
      try simp only [Act.put, List.getElem_toArray, List.getElem_cons_zero, List.getElem_cons_succ, List.setIfInBounds_toArray, List.set_cons_zero, List.set_cons_succ]
      refine wpAnyH_tk (i := 6) (v := ?_) (LN := #[true, true, true, true, true, true, true, false, false, false, false, false]) rfl (by kernel_rfl) (by kernel_rfl) (by kernel_rfl) (fun _ _ _ h => h) (by kernel_rfl) (by rfl) (by assumption) ?_ ?_
      rotate_left
      · intro w hSw; (try dsimp only at hSw); first | (go_simp; done) | (go_simp; with_reducible rfl)
      try simp only [Act.put, List.getElem_toArray, List.getElem_cons_zero, List.getElem_cons_succ, List.setIfInBounds_toArray, List.set_cons_zero, List.set_cons_succ]
      refine wpAnyH_tk (i := 7) (v := ?_) (LN := #[true, true, true, true, true, true, true, true, false, false, false, false]) rfl (by kernel_rfl) (by kernel_rfl) (by kernel_rfl) (fun _ _ _ h => h) (by kernel_rfl) (by rfl) (by assumption) ?_ ?_
      rotate_left
      · intro w hSw; (try dsimp only at hSw); first | (go_simp; done) | (go_simp; with_reducible rfl)
      try simp only [Act.put, List.getElem_toArray, List.getElem_cons_zero, List.getElem_cons_succ, List.setIfInBounds_toArray, List.set_cons_zero, List.set_cons_succ]
      refine wpAnyH_tk (i := 8) (v := ?_) (LN := #[true, true, true, true, true, true, true, true, true, false, false, false]) rfl (by kernel_rfl) (by kernel_rfl) (by kernel_rfl) (fun _ _ _ h => h) (by kernel_rfl) (by rfl) (by assumption) ?_ ?_
      rotate_left
      · intro w hSw; (try dsimp only at hSw); first | (go_simp; done) | (go_simp; with_reducible rfl)
      try simp only [Act.put, List.getElem_toArray, List.getElem_cons_zero, List.getElem_cons_succ, List.setIfInBounds_toArray, List.set_cons_zero, List.set_cons_succ]
      refine wpAnyH_one (i := 9) (LN := #[true, true, true, true, true, true, true, true, true, true, false, false]) (by kernel_rfl) rfl (by kernel_rfl) ?_
      intro K hK
      go_simp
      have S6 := S5.alloc [.int .i64 0, .int .i32 0, .int .i32 0, .int .i32 0, .int .i32 0, .int .i32 0, .int .i32 0, .int .i32 0, .int .i32 0, .int .i32 0, .int .i32 0, .int .i32 0, .int .i32 0, .int .i32 0, .int .i32 0, .int .i32 0, .int .i32 0, .int .u32 0, .bool false, .int .i64 0] 31
      refine hK.out _ _ (gat S6.tail) ?_
      clear hK K hHeld
      intro hHeld
      try simp only [Act.put, List.getElem_toArray, List.getElem_cons_zero, List.getElem_cons_succ, List.setIfInBounds_toArray, List.set_cons_zero, List.set_cons_succ]
      refine wpAnyH_one (i := 10) (LN := #[true, true, true, true, true, true, true, true, true, true, true, false]) (by kernel_rfl) rfl (by kernel_rfl) ?_
      intro K hK
      refine step_store_sat (off := 0) (n := 20) rfl 31 _ _ rfl S6 rfl rfl HAL.out (by decide) Try.sizeS (svals_one A) ?_
      intro w7 S7
      rw [zstore] at S7
      refine hK.out _ _ (gat S7.tail) ?_
      clear hK K hHeld
      intro hHeld
      try simp only [Act.put, List.getElem_toArray, List.getElem_cons_zero, List.getElem_cons_succ, List.setIfInBounds_toArray, List.set_cons_zero, List.set_cons_succ]
      refine wpAnyH_tk (i := 11) (v := ?_) (LN := #[true, true, true, true, true, true, true, true, true, true, true, true]) rfl (by kernel_rfl) (by kernel_rfl) (by kernel_rfl) (fun _ _ _ h => h) (by kernel_rfl) (by rfl) (by assumption) ?_ ?_
      rotate_left
      · intro w hSw; (try dsimp only at hSw); first | (go_simp; done) | (go_simp; with_reducible rfl)
      try simp only [Act.put, List.getElem_toArray, List.getElem_cons_zero, List.getElem_cons_succ, List.setIfInBounds_toArray, List.set_cons_zero, List.set_cons_succ]
      refine ⟨by kernel_rfl, ?_⟩
      try simp only [Act.put, List.getElem_toArray, List.getElem_cons_zero, List.getElem_cons_succ, List.setIfInBounds_toArray, List.set_cons_zero, List.set_cons_succ]
      go_wp2_with fail
      go_meet
      exact ⟨_, rfl, rfl, S7⟩
    · intro K hK
      go_simp
      have S5 := S4.alloc [.int .i64 0, .int .i32 0, .int .i32 0, .int .i32 0, .int .i32 0, .int .i32 0, .int .i32 0, .int .i32 0, .int .i32 0, .int .i32 0, .int .i32 0, .int .i32 0, .int .i32 0, .int .i32 0, .int .i32 0, .int .i32 0, .int .i32 0, .int .u32 0, .bool false, .int .i64 0] 31
      refine hK.out _ _ (gat S5.tail) ?_
      clear hK K hHeld
      intro hHeld
      try simp only [Act.put, List.getElem_toArray, List.getElem_cons_zero, List.getElem_cons_succ, List.setIfInBounds_toArray, List.set_cons_zero, List.set_cons_succ]
      refine wpAnyH_one (i := 5) (LN := #[true, true, true, true, true, true, false, false, false, true, false, false]) (by kernel_rfl) rfl (by kernel_rfl) ?_
      intro K hK
      go_simp
      go_at_call 11
      refine (play_any S5 (fun w' h => HRD.out _ _ h) HN.out hnm cap fuel seed hsd (fun w' h => pairs_take k ▸ (HRB.out _ _ h).take _) HTL.out (by omega) HTK.out).mono ?_
      unfold Stepped
      rintro e w6 ⟨rfl, S6⟩
      rw [HPL.out]
      go_wp2_with fail
      refine hK.out _ _ (gat S6.tail) ?_
      clear hK K hHeld
      intro hHeld
      try simp only [Act.put, List.getElem_toArray, List.getElem_cons_zero, List.getElem_cons_succ, List.setIfInBounds_toArray, List.set_cons_zero, List.set_cons_succ]
      refine wpAnyH_tk (i := 6) (v := ?_) (LN := #[true, true, true, true, true, true, true, false, false, true, false, false]) rfl (by kernel_rfl) (by kernel_rfl) (by kernel_rfl) (fun _ _ _ h => h) (by kernel_rfl) (by rfl) (by assumption) ?_ ?_
      rotate_left
      · intro w hSw; (try dsimp only at hSw); first | (go_simp; done) | (go_simp; with_reducible rfl)
      try simp only [Act.put, List.getElem_toArray, List.getElem_cons_zero, List.getElem_cons_succ, List.setIfInBounds_toArray, List.set_cons_zero, List.set_cons_succ]
      refine wpAnyH_tk (i := 7) (v := ?_) (LN := #[true, true, true, true, true, true, true, true, false, true, false, false]) rfl (by kernel_rfl) (by kernel_rfl) (by kernel_rfl) (fun _ _ _ h => h) (by kernel_rfl) (by rfl) (by assumption) ?_ ?_
      rotate_left
      · intro w hSw; (try dsimp only at hSw); first | (go_simp; done) | (go_simp; with_reducible rfl)
      try simp only [Act.put, List.getElem_toArray, List.getElem_cons_zero, List.getElem_cons_succ, List.setIfInBounds_toArray, List.set_cons_zero, List.set_cons_succ]
      refine wpAnyH_tk (i := 8) (v := ?_) (LN := #[true, true, true, true, true, true, true, true, true, true, false, false]) rfl (by kernel_rfl) (by kernel_rfl) (by kernel_rfl) (fun _ _ _ h => h) (by kernel_rfl) (by rfl) (by assumption) ?_ ?_
      rotate_left
      · intro w hSw; (try dsimp only at hSw); first | (go_simp; done) | (go_simp; with_reducible rfl)
      try simp only [Act.put, List.getElem_toArray, List.getElem_cons_zero, List.getElem_cons_succ, List.setIfInBounds_toArray, List.set_cons_zero, List.set_cons_succ]
      refine wpAnyH_one (i := 10) (LN := #[true, true, true, true, true, true, true, true, true, true, true, false]) (by kernel_rfl) rfl (by kernel_rfl) ?_
      intro K hK
      refine step_store_sat (off := 0) (n := 20) rfl 31 _ _ rfl S6 rfl rfl HAL.out (by decide) Try.sizeS (svals_one A) ?_
      intro w7 S7
      rw [zstore] at S7
      refine hK.out _ _ (gat S7.tail) ?_
      clear hK K hHeld
      intro hHeld
      try simp only [Act.put, List.getElem_toArray, List.getElem_cons_zero, List.getElem_cons_succ, List.setIfInBounds_toArray, List.set_cons_zero, List.set_cons_succ]
      refine wpAnyH_tk (i := 11) (v := ?_) (LN := #[true, true, true, true, true, true, true, true, true, true, true, true]) rfl (by kernel_rfl) (by kernel_rfl) (by kernel_rfl) (fun _ _ _ h => h) (by kernel_rfl) (by rfl) (by assumption) ?_ ?_
      rotate_left
      · intro w hSw; (try dsimp only at hSw); first | (go_simp; done) | (go_simp; with_reducible rfl)
      try simp only [Act.put, List.getElem_toArray, List.getElem_cons_zero, List.getElem_cons_succ, List.setIfInBounds_toArray, List.set_cons_zero, List.set_cons_succ]
      refine ⟨by kernel_rfl, ?_⟩
      try simp only [Act.put, List.getElem_toArray, List.getElem_cons_zero, List.getElem_cons_succ, List.setIfInBounds_toArray, List.set_cons_zero, List.set_cons_succ]
      go_wp2_with fail
      go_meet
      exact ⟨_, rfl, rfl, S7⟩
  case rest =>
    obtain ⟨y, rfl, rfl, S8⟩ := hcut
    obtain ⟨pg, hpg⟩ : ∃ pg, pg = w.heap.size := ⟨_, rfl⟩
    rw [← hpg] at S8 ⊢
    clear hpg g4 g3 g2 S4 S3 S2 S1 c0
    go_wp2_with fail
    go_loopw [12] (fun i wr => ∃ (j : Nat) (s : VS), k ≤ j ∧ j ≤ m ∧ i = .int .i64 j ∧ Hid (foldP code cap fuel (VS.start seed) (ps.take j) = s) ∧ Hid (Goes cap s) ∧ Sat w wr (blk y (svals s) 31 :: blk pg [.slice a n c, .int .i64 cap, .int .i64 fuel] 24 :: [])) (fun i _ => m - (intOf i).toNat)
    case atStart => exact ⟨k, A, by omega, hkm, rfl, HA, HGA, S8⟩
    case round =>
      clear S8 HGA HA HAL HPL HTL HTK
      obtain ⟨j, s, hkj, hj, rfl, HF, HG, S9⟩ := hrel
      have j0 : (0 : Int) ≤ (j : Int) := Int.natCast_nonneg _
      have hso := HG.out.ok
      have HSL := Lib.hid (svals_length hso.len)
      have hov := (svals_tail hso.len 1)
      simp only [List.getElem?_cons_zero, List.getElem?_cons_succ] at hov
      have cov := S9.cell 0 rfl 18
      rw [hov] at cov
      clear hov
      have g9 := gat (S9.sel [1])
      by_cases hlt : j < m
      · have j1 : (j : Int) < (m : Int) := by omega
        cases ho : s.over with
        | true =>
          rw [ho] at cov
          have HE := Lib.hid ((foldP_end (code := code) (cap := cap) (fuel := fuel) (s := VS.start seed) (l := ps) (k := j) (by rw [HF.out]; exact ho)).trans HF.out)
          have HPL2 : Hid (playP code cap fuel seed ps = (s, 0)) := by
            show _ = _
            rw [playP_fold HK.out, HE.out]
          have HEQ := Lib.hid (fun w' => (run_eql_state (s := s) (t := s) w' hso.len hso.len).trans (by rw [decide_eq_true rfl]))
          go_wp2_with (first
            | (go_at_call 11; refine (play_any S9 (fun w' h => HRD.out _ _ h) HN.out hnm cap fuel seed hsd (fun w' h => HRB.out _ _ h) HM.out (by omega) HPB.out).mono ?_; unfold Stepped; rintro e w5 ⟨rfl, S10⟩; rw [HPL2.out]; have S11 := S10.alloc [.int .i64 0, .int .i32 0, .int .i32 0, .int .i32 0, .int .i32 0, .int .i32 0, .int .i32 0, .int .i32 0, .int .i32 0, .int .i32 0, .int .i32 0, .int .i32 0, .int .i32 0, .int .i32 0, .int .i32 0, .int .i32 0, .int .i32 0, .int .u32 0, .bool false, .int .i64 0] 31)
            | (refine wpList_store_sat (off := 0) (n := 20) rfl 31 _ _ rfl S11 rfl rfl HSL.out (by decide) Try.sizeS (svals_one s) ?_; intro w6 S12; rw [zstore] at S12)
            | (refine wpList_load_guard (by rfl) 31 _ rfl (n := 20) rfl (Sat.whole (S12.sel [1]) 20) HSL.out Try.underlying31 rfl Try.sizeS ?_)
            | (refine wpList_load_guard (by rfl) 31 _ rfl (n := 20) rfl (Sat.whole S12 20) HSL.out Try.underlying31 rfl Try.sizeS ?_)
            | (refine wpList_eq_agg (by rfl) .eql 31 _ _ rfl (r := true) rfl rfl (by kernel_rfl) (HEQ.out _) ?_)
            | (go_at_call 13; refine (dknown_any S12).mono ?_; rintro e w7 ⟨rfl, S13⟩))
          go_ret
          exact ⟨rfl, S13.below⟩
        | false =>
          rw [ho] at cov
          obtain ⟨x, hx⟩ : ∃ x, ps[j]? = some x := ⟨ps[j]'(by rw [HM.out]; exact hlt), List.getElem?_eq_getElem _⟩
          have hpx := HPB.out x (List.mem_of_getElem? hx)
          obtain ⟨i0, i1⟩ := x
          have hpx0 : 0 ≤ i0 ∧ i0 < 65536 := hpx.1
          have hpx1 : 0 ≤ i1 ∧ i1 < 65536 := hpx.2
          have S10 := S9.drew
          obtain ⟨bb, off, rfl, p0, p1⟩ := pairsv_cells (HRB.out _ _ S10) hx
          obtain ⟨t, hst, hgt, hfr⟩ := goes_step HK.out HG.out ho hpx0 hpx1
          have HST := Lib.hid hst
          have HGT := Lib.hid hgt
          have HTL := Lib.hid (svals_length hgt.ok.len)
          have hto := hgt.ok
          have HF2 := Lib.hid ((foldP_step (code := code) (cap := cap) (fuel := fuel) (s := VS.start seed) (l := ps) (k := j) hx (by rw [HF.out]; exact ho)).trans (by rw [HF.out, hst]))
          have h1t := Lib.hid (svals_one t)
          clear hst hgt hfr hx hpx
          go_upto_region 9 with fail
          have g10 := gat (S10.sel [1])
          refine wp_region_drawn (N := 11) (LN := #[false, false, false, false, false, false, false, false, false, false, false]) (by kernel_rfl) (by kernel_rfl) (by kernel_rfl) ?_
          refine wpAny_seg 0 6 5 11 #[true, true, true, true, true, true, false, false, false, false, false] (by kernel_rfl) (by kernel_rfl) ?_
          simp only [List.take_succ_cons, List.take_zero, List.drop_succ_cons, List.drop_zero]
          refine wpStill_step (fun K hK => ?_); go_simp; refine hK _ ?_; clear hK K
          try simp only [Act.put, List.getElem_toArray, List.getElem_cons_zero, List.getElem_cons_succ, List.setIfInBounds_toArray, List.set_cons_zero, List.set_cons_succ]
          refine wpStill_step (fun K hK => ?_); refine still_load_part rfl 31 _ rfl (n := 20) rfl (Sat.whole S10 20) HSL.out Try.underlying31 rfl (by kernel_rfl) ?_; refine hK _ ?_; clear hK K
          try simp only [Act.put, List.getElem_toArray, List.getElem_cons_zero, List.getElem_cons_succ, List.setIfInBounds_toArray, List.set_cons_zero, List.set_cons_succ]
          refine wpStill_step (fun K hK => ?_); go_simp; refine hK _ ?_; clear hK K
          try simp only [Act.put, List.getElem_toArray, List.getElem_cons_zero, List.getElem_cons_succ, List.setIfInBounds_toArray, List.set_cons_zero, List.set_cons_succ]
          refine wpStill_step (fun K hK => ?_); go_simp; refine hK _ ?_; clear hK K
          try simp only [Act.put, List.getElem_toArray, List.getElem_cons_zero, List.getElem_cons_succ, List.setIfInBounds_toArray, List.set_cons_zero, List.set_cons_succ]
          refine wpStill_step (fun K hK => ?_); go_simp; refine hK _ ?_; clear hK K
          try simp only [Act.put, List.getElem_toArray, List.getElem_cons_zero, List.getElem_cons_succ, List.setIfInBounds_toArray, List.set_cons_zero, List.set_cons_succ]
          refine wpStill_step (fun K hK => ?_); go_simp; refine hK _ ?_; clear hK K
          try simp only [Act.put, List.getElem_toArray, List.getElem_cons_zero, List.getElem_cons_succ, List.setIfInBounds_toArray, List.set_cons_zero, List.set_cons_succ]
          refine wpStill_nil ?_
          refine wpAny_one (i := 6) (LN := #[true, true, true, true, true, true, true, false, false, false, false]) (by kernel_rfl) rfl (by kernel_rfl) ?_
          intro K hK
          go_simp
          go_at_call 12
          refine (r10step_any S10 (fun w' h => HRD.out _ _ h) HN.out hnm cap fuel hso i0 i1 hpx0 hpx1).mono ?_
          unfold Stepped
          rintro e w3 ⟨rfl, S11⟩
          rw [HST.out]
          go_wp2_with fail
          refine hK.out _ _ ?_
          clear hK K
          try simp only [Act.put, List.getElem_toArray, List.getElem_cons_zero, List.getElem_cons_succ, List.setIfInBounds_toArray, List.set_cons_zero, List.set_cons_succ]
          refine wpAny_loc (i := 7) (v := ?_) (LN := #[true, true, true, true, true, true, true, true, false, false, false]) rfl (by kernel_rfl) (by kernel_rfl) (by kernel_rfl) (fun _ _ _ h => h) (by kernel_rfl) (by rfl) ?_ ?_
          rotate_left
          · intro w; first | (go_simp; done) | (go_simp; with_reducible rfl)
          try simp only [Act.put, List.getElem_toArray, List.getElem_cons_zero, List.getElem_cons_succ, List.setIfInBounds_toArray, List.set_cons_zero, List.set_cons_succ]
          refine wpAny_loc (i := 8) (v := ?_) (LN := #[true, true, true, true, true, true, true, true, true, false, false]) rfl (by kernel_rfl) (by kernel_rfl) (by kernel_rfl) (fun _ _ _ h => h) (by kernel_rfl) (by rfl) ?_ ?_
          rotate_left
          · intro w; first | (go_simp; done) | (go_simp; with_reducible rfl)
          try simp only [Act.put, List.getElem_toArray, List.getElem_cons_zero, List.getElem_cons_succ, List.setIfInBounds_toArray, List.set_cons_zero, List.set_cons_succ]
          refine wpAny_loc (i := 9) (v := ?_) (LN := #[true, true, true, true, true, true, true, true, true, true, false]) rfl (by kernel_rfl) (by kernel_rfl) (by kernel_rfl) (fun _ _ _ h => h) (by kernel_rfl) (by rfl) ?_ ?_
          rotate_left
          · intro w; first | (go_simp; done) | (go_simp; with_reducible rfl)
          try simp only [Act.put, List.getElem_toArray, List.getElem_cons_zero, List.getElem_cons_succ, List.setIfInBounds_toArray, List.set_cons_zero, List.set_cons_succ]
          refine wpAny_one (i := 10) (LN := #[true, true, true, true, true, true, true, true, true, true, true]) (by kernel_rfl) rfl (by kernel_rfl) ?_
          intro K hK
          refine step_store_sat (off := 0) (n := 20) rfl 31 _ _ rfl S11 rfl rfl HTL.out (by rw [HSL.out]; decide) Try.sizeS h1t.out ?_
          intro w4 S12
          rw [sstore HSL.out] at S12
          refine hK.out _ _ ?_
          clear hK K
          try simp only [Act.put, List.getElem_toArray, List.getElem_cons_zero, List.getElem_cons_succ, List.setIfInBounds_toArray, List.set_cons_zero, List.set_cons_succ]
          refine ⟨by kernel_rfl, ?_⟩
          try simp only [Act.put, List.getElem_toArray, List.getElem_cons_zero, List.getElem_cons_succ, List.setIfInBounds_toArray, List.set_cons_zero, List.set_cons_succ]
          go_wp2_with fail
          exact ⟨⟨j + 1, t, by omega, by omega, rfl, HF2, HGT, S12⟩, by simp [intOf]; omega⟩
      · have hjm : j = m := by omega
        subst hjm
        have HE : Hid (foldP code cap fuel (VS.start seed) ps = s) := by
          have h := HF.out
          rw [List.take_of_length_le (Nat.le_of_eq HM.out)] at h
          exact h
        have HPL2 : Hid (playP code cap fuel seed ps = (s, 0)) := by
          show _ = _
          rw [playP_fold HK.out, HE.out]
        have HEQ := Lib.hid (fun w' => (run_eql_state (s := s) (t := s) w' hso.len hso.len).trans (by rw [decide_eq_true rfl]))
        go_wp2_with (first
          | (go_at_call 11; refine (play_any S9 (fun w' h => HRD.out _ _ h) HN.out hnm cap fuel seed hsd (fun w' h => HRB.out _ _ h) HM.out (by omega) HPB.out).mono ?_; unfold Stepped; rintro e w5 ⟨rfl, S10⟩; rw [HPL2.out]; have S11 := S10.alloc [.int .i64 0, .int .i32 0, .int .i32 0, .int .i32 0, .int .i32 0, .int .i32 0, .int .i32 0, .int .i32 0, .int .i32 0, .int .i32 0, .int .i32 0, .int .i32 0, .int .i32 0, .int .i32 0, .int .i32 0, .int .i32 0, .int .i32 0, .int .u32 0, .bool false, .int .i64 0] 31)
          | (refine wpList_store_sat (off := 0) (n := 20) rfl 31 _ _ rfl S11 rfl rfl HSL.out (by decide) Try.sizeS (svals_one s) ?_; intro w6 S12; rw [zstore] at S12)
          | (refine wpList_load_guard (by rfl) 31 _ rfl (n := 20) rfl (Sat.whole (S12.sel [1]) 20) HSL.out Try.underlying31 rfl Try.sizeS ?_)
          | (refine wpList_load_guard (by rfl) 31 _ rfl (n := 20) rfl (Sat.whole S12 20) HSL.out Try.underlying31 rfl Try.sizeS ?_)
          | (refine wpList_eq_agg (by rfl) .eql 31 _ _ rfl (r := true) rfl rfl (by kernel_rfl) (HEQ.out _) ?_)
          | (go_at_call 13; refine (dknown_any S12).mono ?_; rintro e w7 ⟨rfl, S13⟩))
        go_ret
        exact ⟨rfl, S13.below⟩
end Go.Proofs.Ytpcffejanlokiaa
