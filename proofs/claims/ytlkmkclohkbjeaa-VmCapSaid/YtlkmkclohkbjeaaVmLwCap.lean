/-
  The law VmCap, walked.
-/
import Derived.Test.YtlkmkclohkbjeaaVmK
import Derived.Test.YtlkmkclohkbjeaaVmH
import Derived.Test.YtlkmkclohkbjeaaVmG
namespace Go.Proofs.Ytlkmkclohkbjeaa
open Go.RowKit Go.Sep Go.Vm
set_option linter.unusedSimpArgs false

theorem Try.infoInsC : (Try.prog.info? 45).map (fun i => (i.zero, i.size, i.bytes)) = some (some (.agg #[.int .i64 0, .int .i64 0]), 2, 16) := by kernel_rfl
theorem twoC_one (a b : Int) : ∀ u ∈ ([.int .i64 a, .int .i64 b] : List Value), u.oneCell' = true := by
  intro u hu
  simp only [List.mem_cons, List.not_mem_nil, or_false] at hu
  rcases hu with rfl | rfl <;> rfl

set_option maxRecDepth 100000 in
set_option maxHeartbeats 3200000 in
theorem VmCap_walk {w : World} (limit a b win : Int) (ha : -2147483648 ≤ a ∧ a ≤ 2147483647) (hb : -2147483648 ≤ b ∧ b ≤ 2147483647) :
    Calls Try.prog 7 #[.int .i64 limit, .int .i32 a, .int .i32 b, .int .i64 win] w fun e w' => e = .returned (.bool true) ∧ Below w.heap.size w w' := by
  have S0 := Sat.start w
  by_cases hn1 : limit < 1
  · go_enter Try.func7, Try.ntmps7
    go_wp2_with (go_at_call 19; refine (vknown_any S0).mono ?_; rintro e w6 ⟨rfl, S6⟩)
    go_ret
    exact ⟨rfl, S6.below⟩
  by_cases hn2 : 40 < limit
  · go_enter Try.func7, Try.ntmps7
    go_wp2_with (go_at_call 19; refine (vknown_any S0).mono ?_; rintro e w6 ⟨rfl, S6⟩)
    go_ret
    exact ⟨rfl, S6.below⟩
  by_cases hn3 : win < 0
  · go_enter Try.func7, Try.ntmps7
    go_wp2_with (go_at_call 19; refine (vknown_any S0).mono ?_; rintro e w6 ⟨rfl, S6⟩)
    go_ret
    exact ⟨rfl, S6.below⟩
  by_cases hn4 : 3 < win
  · go_enter Try.func7, Try.ntmps7
    go_wp2_with (go_at_call 19; refine (vknown_any S0).mono ?_; rintro e w6 ⟨rfl, S6⟩)
    go_ret
    exact ⟨rfl, S6.below⟩
  obtain ⟨M, rfl⟩ : ∃ M : Nat, limit = (M : Int) := ⟨limit.toNat, by omega⟩
  have hM1 : 1 ≤ M := by omega
  have hM2 : M ≤ 40 := by omega
  have SA := S0.alloc (insv (ccode a b)) 45
  have S1 := SA.alloc [.slice (some ⟨w.heap.size, 0, none⟩) 4 4, .int .i64 (M : Int), .int .i64 20] 24
  simp only [World.size_alloc] at S1
  have S1n := S1
  rw [← List.append_nil (insv (ccode a b))] at S1n
  obtain ⟨i0, hi, hz0, hz1, hz2⟩ := info_parts Try.infoInsC
  have hz : svals (VS.start 1) = [.int .i64 0, .int .i32 0, .int .i32 0, .int .i32 0, .int .i32 0, .int .i32 0, .int .i32 0, .int .i32 0, .int .i32 0, .int .i32 0, .int .i32 0, .int .i32 0, .int .i32 0, .int .i32 0, .int .i32 0, .int .i32 0, .int .i32 0, .int .u32 1, .bool false, .int .i64 0] := rfl
  have HZ0 : Hid ((svals (VS.start 1)).length = 20) := rfl
  clear hz
  by_cases hwin : win < 3
  · have S2 : Sat w _ (slc 45 2 (some ⟨w.heap.size, 0, none⟩) 4 4 (insv (ccode a b)) :: blk (w.heap.size + 1) [.slice (some ⟨w.heap.size, 0, none⟩) 4 4, .int .i64 (M : Int), .int .i64 20] 24 :: []) := Sat.own_new (post := []) (S1n.sel [1]) rfl (Nat.le_refl _) (by unfold maxLen; omega) (by simp)
    have c1 := S2.cell 1 rfl 0
    simp only [List.getElem?_cons_zero] at c1
    have S3 := S2.alloc [.int .i64 20, .int .i64 win] 45
    simp only [World.size_alloc] at S3
    go_enter Try.func7, Try.ntmps7
    go_wp2_with (first
      | (refine wpList_store_sat (off := 0) (n := 20) rfl 28 _ _ rfl S4 rfl rfl HZ0.out (by decide) Try.sizeS (svals_one _) ?_; intro w5 S5; rw [zstore] at S5)
      | (go_at_call 20; refine (vStart_any S10 1 (by omega)).mono ?_; unfold StartsAt; rintro e w3 ⟨rfl, S11⟩; have S4 := S11.alloc [.int .i64 0, .int .i32 0, .int .i32 0, .int .i32 0, .int .i32 0, .int .i32 0, .int .i32 0, .int .i32 0, .int .i32 0, .int .i32 0, .int .i32 0, .int .i32 0, .int .i32 0, .int .i32 0, .int .i32 0, .int .i32 0, .int .i32 0, .int .u32 0, .bool false, .int .i64 0] 28)
      | (at_builtin; refine wpList_append_sat rfl (.tmp 46) (.tmp 49) _ rfl 45 i0 (.agg #[.int .i64 0, .int .i64 0]) 2 16 Try.underlying22 hi hz0 hz1 hz2 rfl (by decide) (S3.sel [1]) rfl rfl (Rd.lit (S3.block 0 rfl).1) rfl (twoC_one _ _) (by unfold maxLen; omega) (by omega) ?_; intro ao cap w8 S8; have c8 := S8.cell 2 rfl 0; simp only [List.getElem?_cons_zero] at c8; have f8 := S8.frozen 2 rfl 0; have S9 := S8.setCell 2 (k := 0) (v := .slice ao 5 cap) rfl; have S10 : Sat w _ (slc 45 2 ao 5 cap (insv (ccodeW a b win)) :: blk _ _ _ :: blk (w.heap.size + 1) [.slice ao 5 cap, .int .i64 (M : Int), .int .i64 20] 24 :: []) := S9))
    have S12 : Sat w w5 (blk w3.heap.size (svals (VS.start 1)) 28 :: blk (w.heap.size + 1) [.slice ao 5 cap, .int .i64 (M : Int), .int .i64 20] 24 :: slc 45 2 ao 5 cap (insv (ccodeW a b win)) :: []) := ((S5.sel [2]).tail).sel [0, 1]
    have hE := endsW (a := a) (b := b) (win := win) (lim := M) ha hb (by omega) (by omega)
    have hn : (ccodeW a b win).length = 5 := rfl
    generalize ccodeW a b win = code at S12 hE hn
    generalize stW a b win = st at hE
    obtain ⟨n, hnn⟩ : ∃ n, n = 5 := ⟨_, rfl⟩
    obtain ⟨m, hmm⟩ : ∃ m, m = 1 := ⟨_, rfl⟩
    have hn5 : n ≤ 5 := by omega
    simp only [← hnn] at S12 hn ⊢
    rw [← hmm] at hE
    have HM := Lib.hid hmm
    clear S2 S3 S4 S11 S10 S9 S8 S5 hnn hmm c1 c8 f8 S1 S1n SA
    have S5 := S12
    clear S12
    generalize w3.heap.size = ps at S5 ⊢
    generalize w.heap.size + 1 = pg at S5 ⊢
    have HND := Lib.hid hE
    have hl256 := hE.len
    have hm1 := hE.lim1
    have hm2 := hE.lim2
    have HN := Lib.hid hn
    clear hE hn
    go_loopw [11] (fun i wr => ∃ k : Nat, k ≤ m ∧ i = .int .i64 k ∧ Sat w wr (blk ps (svals (st k)) 28 :: blk pg [.slice ao n cap, .int .i64 (M : Int), .int .i64 20] 24 :: slc 45 2 ao n cap (insv code) :: [])) (fun i _ => m - (intOf i).toNat)
    case atStart => exact ⟨0, by omega, rfl, by rw [HND.out.first]; exact S5⟩
    case round =>
      clear S5
      obtain ⟨k, hk, rfl, S6⟩ := hrel
      have hso := HND.out.ok k hk
      have HSL := Lib.hid (svals_length hso.len)
      have hA := st_at hso.len S6
      have c18 := hA.over
      have c0 := hA.frame
      have c19 := hA.winner
      rw [HND.out.frame k hk] at c0
      have c5 : Rd wr ao (insv code) := (S6.sel [2]).own_rd
      obtain ⟨g0, g1, g2⟩ := gat S6.tail
      clear c5 hA
      by_cases hlt : k < m
      · have h1 := HND.out.more k hlt
        rw [h1.1] at c18
        have HST := Lib.hid h1.2
        have hto := HND.out.ok (k + 1) (by omega)
        have HTL := Lib.hid (svals_length hto.len)
        have hbk : (svals (st k)).take 0 ++ svals (st (k + 1)) ++ (svals (st k)).drop (0 + 20) = svals (st (k + 1)) := by
          rw [List.take_zero, List.nil_append, List.drop_of_length_le (by rw [HSL.out]; omega), List.append_nil]
        have HBK := Lib.hid hbk
        have hkM : (k : Int) ≤ (M : Int) := by omega
        clear h1 hbk c0 c19
        go_wp2_with (first
          | (refine wpList_store_sat (off := 0) (n := 20) rfl 28 _ _ rfl (S9.sel [1]) rfl rfl HTL.out (by rw [HSL.out]; omega) Try.sizeS (svals_one (st (k + 1))) ?_; intro w10 S10; rw [HBK.out] at S10)
          | (refine wpList_load_part rfl 28 _ rfl (n := 20) rfl (S9.part 0 20) (by rw [List.length_take, List.length_drop, HTL.out]; rfl) Try.underlying28 rfl Try.sizeS ?_; rw [List.drop_zero, List.take_of_length_le (by rw [HTL.out]; omega)])
          | (refine wpList_store_sat (off := 0) (n := 20) rfl 28 _ _ rfl S8 rfl rfl HTL.out (by decide) Try.sizeS (svals_one (st (k + 1))) ?_; intro w9 S9; rw [zstore] at S9)
          | (refine wpList_load_part rfl 28 _ rfl (n := 20) rfl (S6.part 0 20) (by rw [List.length_take, List.length_drop, HSL.out]; rfl) Try.underlying28 rfl Try.sizeS ?_; rw [List.drop_zero, List.take_of_length_le (by rw [HSL.out]; omega)])
          | (go_at_call 15; refine (vStep_any (code := code) (n := n) S6 (fun w' h => (h.sel [2]).own_rd) HN.out (by unfold maxLen; omega) M 20 hso 0 0 (by omega) (by omega)).mono ?_; unfold Stepped; rintro e w7 ⟨rfl, S7⟩; rw [HST.out]; have S8 := S7.alloc [.int .i64 0, .int .i32 0, .int .i32 0, .int .i32 0, .int .i32 0, .int .i32 0, .int .i32 0, .int .i32 0, .int .i32 0, .int .i32 0, .int .i32 0, .int .i32 0, .int .i32 0, .int .i32 0, .int .i32 0, .int .i32 0, .int .i32 0, .int .u32 0, .bool false, .int .i64 0] 28))
        go_roundw
        case rel => exact ⟨k + 1, by omega, by go_num, (S10.sel [1]).tail⟩
        case measure => simp [intOf]; omega
      · obtain rfl : k = m := by omega
        rw [HND.out.over] at c18
        rw [HND.out.winner] at c19
        have HST := Lib.hid HND.out.last
        obtain rfl : k = 1 := HM.out
        have hz20 : (svals VS.zero).length = 20 := rfl
        go_wp2_with (first
          | (refine wpList_store_sat (off := 0) (n := 20) rfl 28 _ _ rfl S8 rfl rfl hz20 (by decide) Try.sizeS (svals_one _) ?_; intro w9 S9; rw [zstore] at S9; have d18 := ((S9.cell 1 rfl 18).trans ((S6.cell 0 rfl 18).symm.trans c18)); have d0 := ((S9.cell 1 rfl 0).trans ((S6.cell 0 rfl 0).symm.trans c0)); have d19 := ((S9.cell 1 rfl 19).trans ((S6.cell 0 rfl 19).symm.trans c19)))
          | (refine wpList_load_part rfl 28 _ rfl (n := 20) rfl (S6.part 0 20) (by rw [List.length_take, List.length_drop, HSL.out]; rfl) Try.underlying28 rfl Try.sizeS ?_; rw [List.drop_zero, List.take_of_length_le (by rw [HSL.out]; omega)])
          | (go_at_call 15; refine (vStep_any (code := code) (n := n) S6 (fun w' h => (h.sel [2]).own_rd) HN.out (by unfold maxLen; omega) M 20 hso 0 0 (by omega) (by omega)).mono ?_; unfold Stepped; rintro e w7 ⟨rfl, S7⟩; rw [HST.out]; have S8 := S7.alloc [.int .i64 0, .int .i32 0, .int .i32 0, .int .i32 0, .int .i32 0, .int .i32 0, .int .i32 0, .int .i32 0, .int .i32 0, .int .i32 0, .int .i32 0, .int .i32 0, .int .i32 0, .int .i32 0, .int .i32 0, .int .i32 0, .int .i32 0, .int .u32 0, .bool false, .int .i64 0] 28)
          | (go_at_call 19; refine (vknown_any S9).mono ?_; rintro e w6 ⟨rfl, S10⟩))
        go_ret
        exact ⟨rfl, S10.below⟩
  · obtain rfl : win = 3 := by omega
    have S10 : Sat w _ (slc 45 2 (some ⟨w.heap.size, 0, none⟩) 4 4 (insv (ccode a b)) :: blk (w.heap.size + 1) [.slice (some ⟨w.heap.size, 0, none⟩) 4 4, .int .i64 (M : Int), .int .i64 20] 24 :: []) := Sat.own_new (post := []) (S1n.sel [1]) rfl (Nat.le_refl _) (by unfold maxLen; omega) (by simp)
    go_enter Try.func7, Try.ntmps7
    go_wp2_with (first
      | (refine wpList_store_sat (off := 0) (n := 20) rfl 28 _ _ rfl S4 rfl rfl HZ0.out (by decide) Try.sizeS (svals_one _) ?_; intro w5 S5; rw [zstore] at S5)
      | (go_at_call 20; refine (vStart_any S10 1 (by omega)).mono ?_; unfold StartsAt; rintro e w3 ⟨rfl, S11⟩; have S4 := S11.alloc [.int .i64 0, .int .i32 0, .int .i32 0, .int .i32 0, .int .i32 0, .int .i32 0, .int .i32 0, .int .i32 0, .int .i32 0, .int .i32 0, .int .i32 0, .int .i32 0, .int .i32 0, .int .i32 0, .int .i32 0, .int .i32 0, .int .i32 0, .int .u32 0, .bool false, .int .i64 0] 28))
    have S12 : Sat w w5 (blk w3.heap.size (svals (VS.start 1)) 28 :: blk (w.heap.size + 1) [.slice (some ⟨w.heap.size, 0, none⟩) 4 4, .int .i64 (M : Int), .int .i64 20] 24 :: slc 45 2 (some ⟨w.heap.size, 0, none⟩) 4 4 (insv (ccode a b)) :: []) := S5.sel [0, 1]
    have hE := endsC (a := a) (b := b) (m := M) ha hb (by omega)
    have hn : (ccode a b).length = 4 := rfl
    generalize ccode a b = code at S12 hE hn
    generalize stC a b M = st at hE
    obtain ⟨n, hnn⟩ : ∃ n, n = 4 := ⟨_, rfl⟩
    obtain ⟨cap, hcp⟩ : ∃ cap, cap = 4 := ⟨_, rfl⟩
    obtain ⟨m, hmm⟩ : ∃ m, m = M := ⟨_, rfl⟩
    obtain ⟨ao, hao⟩ : ∃ ao : Option Addr, ao = some ⟨w.heap.size, 0, none⟩ := ⟨_, rfl⟩
    have hn5 : n ≤ 5 := by omega
    have S5 : Sat w w5 (blk w3.heap.size (svals (VS.start 1)) 28 :: blk (w.heap.size + 1) [.slice ao n cap, .int .i64 (M : Int), .int .i64 20] 24 :: slc 45 2 ao n cap (insv code) :: []) := by rw [hao, hnn, hcp]; exact S12
    rw [← hnn] at hn
    have hE' : Vm.Ends code M m (capw a b) st := by rw [hmm]; exact hE
    have HM := Lib.hid hmm
    clear S12 S1 S1n SA S11 S10 S4 hE hnn hcp hao hmm
    have hE := hE'
    clear hE'
    generalize w3.heap.size = ps at S5 ⊢
    generalize w.heap.size + 1 = pg at S5 ⊢
    have HND := Lib.hid hE
    have hl256 := hE.len
    have hm1 := hE.lim1
    have hm2 := hE.lim2
    have HN := Lib.hid hn
    clear hE hn
    go_loopw [11] (fun i wr => ∃ k : Nat, k ≤ m ∧ i = .int .i64 k ∧ Sat w wr (blk ps (svals (st k)) 28 :: blk pg [.slice ao n cap, .int .i64 (M : Int), .int .i64 20] 24 :: slc 45 2 ao n cap (insv code) :: [])) (fun i _ => m - (intOf i).toNat)
    case atStart => exact ⟨0, by omega, rfl, by rw [HND.out.first]; exact S5⟩
    case round =>
      clear S5
      obtain ⟨k, hk, rfl, S6⟩ := hrel
      have hso := HND.out.ok k hk
      have HSL := Lib.hid (svals_length hso.len)
      have hA := st_at hso.len S6
      have c18 := hA.over
      have c0 := hA.frame
      have c19 := hA.winner
      rw [HND.out.frame k hk] at c0
      have c5 : Rd wr ao (insv code) := (S6.sel [2]).own_rd
      obtain ⟨g0, g1, g2⟩ := gat S6.tail
      clear c5 hA
      by_cases hlt : k < m
      · have h1 := HND.out.more k hlt
        rw [h1.1] at c18
        have HST := Lib.hid h1.2
        have hto := HND.out.ok (k + 1) (by omega)
        have HTL := Lib.hid (svals_length hto.len)
        have hbk : (svals (st k)).take 0 ++ svals (st (k + 1)) ++ (svals (st k)).drop (0 + 20) = svals (st (k + 1)) := by
          rw [List.take_zero, List.nil_append, List.drop_of_length_le (by rw [HSL.out]; omega), List.append_nil]
        have HBK := Lib.hid hbk
        have hkM : (k : Int) ≤ (M : Int) := by omega
        clear h1 hbk c0 c19
        go_wp2_with (first
          | (refine wpList_store_sat (off := 0) (n := 20) rfl 28 _ _ rfl (S9.sel [1]) rfl rfl HTL.out (by rw [HSL.out]; omega) Try.sizeS (svals_one (st (k + 1))) ?_; intro w10 S10; rw [HBK.out] at S10)
          | (refine wpList_load_part rfl 28 _ rfl (n := 20) rfl (S9.part 0 20) (by rw [List.length_take, List.length_drop, HTL.out]; rfl) Try.underlying28 rfl Try.sizeS ?_; rw [List.drop_zero, List.take_of_length_le (by rw [HTL.out]; omega)])
          | (refine wpList_store_sat (off := 0) (n := 20) rfl 28 _ _ rfl S8 rfl rfl HTL.out (by decide) Try.sizeS (svals_one (st (k + 1))) ?_; intro w9 S9; rw [zstore] at S9)
          | (refine wpList_load_part rfl 28 _ rfl (n := 20) rfl (S6.part 0 20) (by rw [List.length_take, List.length_drop, HSL.out]; rfl) Try.underlying28 rfl Try.sizeS ?_; rw [List.drop_zero, List.take_of_length_le (by rw [HSL.out]; omega)])
          | (go_at_call 15; refine (vStep_any (code := code) (n := n) S6 (fun w' h => (h.sel [2]).own_rd) HN.out (by unfold maxLen; omega) M 20 hso 0 0 (by omega) (by omega)).mono ?_; unfold Stepped; rintro e w7 ⟨rfl, S7⟩; rw [HST.out]; have S8 := S7.alloc [.int .i64 0, .int .i32 0, .int .i32 0, .int .i32 0, .int .i32 0, .int .i32 0, .int .i32 0, .int .i32 0, .int .i32 0, .int .i32 0, .int .i32 0, .int .i32 0, .int .i32 0, .int .i32 0, .int .i32 0, .int .i32 0, .int .i32 0, .int .u32 0, .bool false, .int .i64 0] 28))
        go_roundw
        case rel => exact ⟨k + 1, by omega, by go_num, (S10.sel [1]).tail⟩
        case measure => simp [intOf]; omega
      · obtain rfl : k = m := by omega
        rw [HND.out.over] at c18
        rw [HND.out.winner] at c19
        have HST := Lib.hid HND.out.last
        obtain rfl : M = k := HM.out.symm
        rcases (show b < a ∨ a < b ∨ a = b by omega) with h | h | h
        · have hcw : capw a b = 0 := by unfold capw; rw [if_pos h]
          rw [hcw] at c19
          have hz20 : (svals VS.zero).length = 20 := rfl
          go_wp2_with (first
            | (refine wpList_store_sat (off := 0) (n := 20) rfl 28 _ _ rfl S8 rfl rfl hz20 (by decide) Try.sizeS (svals_one _) ?_; intro w9 S9; rw [zstore] at S9; have d18 := ((S9.cell 1 rfl 18).trans ((S6.cell 0 rfl 18).symm.trans c18)); have d0 := ((S9.cell 1 rfl 0).trans ((S6.cell 0 rfl 0).symm.trans c0)); have d19 := ((S9.cell 1 rfl 19).trans ((S6.cell 0 rfl 19).symm.trans c19)))
            | (refine wpList_load_part rfl 28 _ rfl (n := 20) rfl (S6.part 0 20) (by rw [List.length_take, List.length_drop, HSL.out]; rfl) Try.underlying28 rfl Try.sizeS ?_; rw [List.drop_zero, List.take_of_length_le (by rw [HSL.out]; omega)])
            | (go_at_call 15; refine (vStep_any (code := code) (n := n) S6 (fun w' h => (h.sel [2]).own_rd) HN.out (by unfold maxLen; omega) M 20 hso 0 0 (by omega) (by omega)).mono ?_; unfold Stepped; rintro e w7 ⟨rfl, S7⟩; rw [HST.out]; have S8 := S7.alloc [.int .i64 0, .int .i32 0, .int .i32 0, .int .i32 0, .int .i32 0, .int .i32 0, .int .i32 0, .int .i32 0, .int .i32 0, .int .i32 0, .int .i32 0, .int .i32 0, .int .i32 0, .int .i32 0, .int .i32 0, .int .i32 0, .int .i32 0, .int .u32 0, .bool false, .int .i64 0] 28)
            | (go_at_call 19; refine (vknown_any S9).mono ?_; rintro e w6 ⟨rfl, S10⟩))
          go_ret
          exact ⟨rfl, S10.below⟩
        · have hcw : capw a b = 1 := by unfold capw; rw [if_neg (by omega), if_pos h]
          rw [hcw] at c19
          have hz20 : (svals VS.zero).length = 20 := rfl
          go_wp2_with (first
            | (refine wpList_store_sat (off := 0) (n := 20) rfl 28 _ _ rfl S8 rfl rfl hz20 (by decide) Try.sizeS (svals_one _) ?_; intro w9 S9; rw [zstore] at S9; have d18 := ((S9.cell 1 rfl 18).trans ((S6.cell 0 rfl 18).symm.trans c18)); have d0 := ((S9.cell 1 rfl 0).trans ((S6.cell 0 rfl 0).symm.trans c0)); have d19 := ((S9.cell 1 rfl 19).trans ((S6.cell 0 rfl 19).symm.trans c19)))
            | (refine wpList_load_part rfl 28 _ rfl (n := 20) rfl (S6.part 0 20) (by rw [List.length_take, List.length_drop, HSL.out]; rfl) Try.underlying28 rfl Try.sizeS ?_; rw [List.drop_zero, List.take_of_length_le (by rw [HSL.out]; omega)])
            | (go_at_call 15; refine (vStep_any (code := code) (n := n) S6 (fun w' h => (h.sel [2]).own_rd) HN.out (by unfold maxLen; omega) M 20 hso 0 0 (by omega) (by omega)).mono ?_; unfold Stepped; rintro e w7 ⟨rfl, S7⟩; rw [HST.out]; have S8 := S7.alloc [.int .i64 0, .int .i32 0, .int .i32 0, .int .i32 0, .int .i32 0, .int .i32 0, .int .i32 0, .int .i32 0, .int .i32 0, .int .i32 0, .int .i32 0, .int .i32 0, .int .i32 0, .int .i32 0, .int .i32 0, .int .i32 0, .int .i32 0, .int .u32 0, .bool false, .int .i64 0] 28)
            | (go_at_call 19; refine (vknown_any S9).mono ?_; rintro e w6 ⟨rfl, S10⟩))
          go_ret
          exact ⟨rfl, S10.below⟩
        · have hcw : capw a b = 2 := by unfold capw; rw [if_neg (by omega), if_neg (by omega)]
          rw [hcw] at c19
          have hz20 : (svals VS.zero).length = 20 := rfl
          go_wp2_with (first
            | (refine wpList_store_sat (off := 0) (n := 20) rfl 28 _ _ rfl S8 rfl rfl hz20 (by decide) Try.sizeS (svals_one _) ?_; intro w9 S9; rw [zstore] at S9; have d18 := ((S9.cell 1 rfl 18).trans ((S6.cell 0 rfl 18).symm.trans c18)); have d0 := ((S9.cell 1 rfl 0).trans ((S6.cell 0 rfl 0).symm.trans c0)); have d19 := ((S9.cell 1 rfl 19).trans ((S6.cell 0 rfl 19).symm.trans c19)))
            | (refine wpList_load_part rfl 28 _ rfl (n := 20) rfl (S6.part 0 20) (by rw [List.length_take, List.length_drop, HSL.out]; rfl) Try.underlying28 rfl Try.sizeS ?_; rw [List.drop_zero, List.take_of_length_le (by rw [HSL.out]; omega)])
            | (go_at_call 15; refine (vStep_any (code := code) (n := n) S6 (fun w' h => (h.sel [2]).own_rd) HN.out (by unfold maxLen; omega) M 20 hso 0 0 (by omega) (by omega)).mono ?_; unfold Stepped; rintro e w7 ⟨rfl, S7⟩; rw [HST.out]; have S8 := S7.alloc [.int .i64 0, .int .i32 0, .int .i32 0, .int .i32 0, .int .i32 0, .int .i32 0, .int .i32 0, .int .i32 0, .int .i32 0, .int .i32 0, .int .i32 0, .int .i32 0, .int .i32 0, .int .i32 0, .int .i32 0, .int .i32 0, .int .i32 0, .int .u32 0, .bool false, .int .i64 0] 28)
            | (go_at_call 19; refine (vknown_any S9).mono ?_; rintro e w6 ⟨rfl, S10⟩))
          go_ret
          exact ⟨rfl, S10.below⟩
end Go.Proofs.Ytlkmkclohkbjeaa
