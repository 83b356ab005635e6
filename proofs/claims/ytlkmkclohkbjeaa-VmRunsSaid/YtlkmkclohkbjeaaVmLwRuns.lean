/-
  The law VmRuns, walked.
-/
import Derived.Test.YtlkmkclohkbjeaaVmW4
import Derived.Test.YtlkmkclohkbjeaaVmI
import Derived.Test.YtlkmkclohkbjeaaVmJ
namespace Go.Proofs.Ytlkmkclohkbjeaa
open Go.RowKit Go.Sep Go.Vm
set_option linter.unusedSimpArgs false

def pairsv (l : List (Int × Int)) : List Value := (l.map fun x => [Value.int .u16 x.1, .int .u16 x.2]).flatten
theorem pairsv_at : ∀ {l : List (Int × Int)} {k : Nat} {x : Int × Int}, l[k]? = some x → (pairsv l)[k * 2]? = some (.int .u16 x.1) ∧ (pairsv l)[k * 2 + 1]? = some (.int .u16 x.2)
  | [], k, x, h => by simp at h
  | y :: r, 0, x, h => by
    obtain rfl : y = x := by simpa using h
    exact ⟨rfl, rfl⟩
  | y :: r, k + 1, x, h => by
    have ih := pairsv_at (l := r) (k := k) (x := x) (by simpa using h)
    rw [show (k + 1) * 2 = k * 2 + 1 + 1 by omega]
    exact ih
theorem pairsv_cells {w : World} {a : Option Addr} {l : List (Int × Int)} (h : Rd w a (pairsv l)) {k : Nat} {x : Int × Int} (hx : l[k]? = some x) : ∃ b off, a = some ⟨b, off, none⟩ ∧
    w.cell? ⟨b, off + k * 2, none⟩ = some (.int .u16 x.1) ∧ w.cell? ⟨b, off + k * 2 + 1, none⟩ = some (.int .u16 x.2) := by
  obtain ⟨h1, h2⟩ := pairsv_at hx
  obtain ⟨b, off, rfl, c1⟩ := h _ _ h1
  exact ⟨b, off, rfl, c1, by have := h.at h2; rwa [← Nat.add_assoc] at this⟩

set_option maxRecDepth 100000 in
set_option maxHeartbeats 6400000 in
theorem VmRuns_walk {w : World} {a : Option Addr} {n c : Nat} {code : List (Int × Int)} (hR : Rd w a (insv code)) (hn : code.length = n) (hnm : n ≤ maxLen) (cap fuel : Int) (seed : Int) (hsd : 0 ≤ seed ∧ seed < 4294967296)
    {b : Option Addr} {m d : Nat} {ps : List (Int × Int)} (hRb : Rd w b (pairsv ps)) (hm : ps.length = m) (hpb : ∀ x ∈ ps, (0 ≤ x.1 ∧ x.1 < 65536) ∧ (0 ≤ x.2 ∧ x.2 < 65536)) :
    Calls Try.prog 4 #[.agg #[.slice a n c, .int .i64 cap, .int .i64 fuel], .int .u32 seed, .slice b m d] w fun e w' => e = .returned (.bool true) ∧ Below w.heap.size w w' := by
  have S0 := Sat.start w
  have S1 := S0.alloc [.slice a n c, .int .i64 cap, .int .i64 fuel] 24
  have c0 := S1.cell 0 rfl 0
  simp only [List.getElem?_cons_zero] at c0
  have HN := Lib.hid hn
  have HM := Lib.hid hm
  have HRD := Lib.hid (fun (L : List Asn) (w' : World) (h : Sat w w' L) => hR.below h.below)
  have HRB := Lib.hid (fun (L : List Asn) (w' : World) (h : Sat w w' L) => hRb.below h.below)
  have HPB := Lib.hid hpb
  clear hn hm hR hRb hpb
  by_cases hbig : 300 < n
  · go_enter Try.func4, Try.ntmps4
    go_wp2_with fail
    all_goals
      go_ret
      exact ⟨rfl, S1.below⟩
  by_cases hbig2 : 100 < m
  · go_enter Try.func4, Try.ntmps4
    go_wp2_with fail
    all_goals
      go_ret
      exact ⟨rfl, S1.below⟩
  have hn300 : n ≤ 300 := by omega
  have hm100 : m ≤ 100 := by omega
  have hok := start_ok hsd
  obtain ⟨s0, hs0⟩ : ∃ s0, VS.start seed = s0 := ⟨_, rfl⟩
  rw [hs0] at hok
  have HS0 := Lib.hid hs0
  have HL0 := Lib.hid (svals_length hok.len)
  have HEQ0 := Lib.hid (fun w' => (run_neq_state (s := s0) (t := s0) w' hok.len hok.len).trans (by rw [decide_eq_true rfl]))
  clear hs0 hbig hbig2
  go_enter Try.func4, Try.ntmps4
  go_wp2_with (first
    | (refine wpList_load_part rfl 28 _ rfl (n := 20) rfl (Sat.whole (S7.sel [1]) 20) HL0.out Try.underlying28 rfl Try.sizeS ?_)
    | (refine wpList_load_part rfl 28 _ rfl (n := 20) rfl (Sat.whole S7 20) HL0.out Try.underlying28 rfl Try.sizeS ?_)
    | (refine wpList_eq_agg rfl .neq 28 _ _ rfl (r := false) rfl rfl (by kernel_rfl) (HEQ0.out _) ?_)
    | (refine wpList_store_sat (off := 0) (n := 20) rfl 28 _ _ rfl (S5.sel [1]) rfl rfl HL0.out (by decide) Try.sizeS (svals_one s0) ?_; intro w6 S6; rw [zstore] at S6)
    | (refine wpList_store_sat (off := 0) (n := 20) rfl 28 _ _ rfl (S6.sel [1]) rfl rfl HL0.out (by decide) Try.sizeS (svals_one s0) ?_; intro w7 S7; rw [zstore] at S7)
    | (go_at_call 20; refine (vStart_any S1 seed hsd).mono ?_; unfold StartsAt; rintro e w2 ⟨rfl, S2⟩; rw [HS0.out])
    | (go_at_call 21; refine (r10start_any S2 seed hsd).mono ?_; unfold StartsAt; rintro e w3 ⟨rfl, S3⟩; rw [HS0.out]; have S5 := (S3.alloc [.int .i64 0, .int .i32 0, .int .i32 0, .int .i32 0, .int .i32 0, .int .i32 0, .int .i32 0, .int .i32 0, .int .i32 0, .int .i32 0, .int .i32 0, .int .i32 0, .int .i32 0, .int .i32 0, .int .i32 0, .int .i32 0, .int .i32 0, .int .u32 0, .bool false, .int .i64 0] 28).alloc [.int .i64 0, .int .i32 0, .int .i32 0, .int .i32 0, .int .i32 0, .int .i32 0, .int .i32 0, .int .i32 0, .int .i32 0, .int .i32 0, .int .i32 0, .int .i32 0, .int .i32 0, .int .i32 0, .int .i32 0, .int .i32 0, .int .i32 0, .int .u32 0, .bool false, .int .i64 0] 28; simp only [World.size_alloc] at S5))
  have S8 : Sat w w7 (blk (w3.heap.size + 1) (svals s0) 28 :: blk w3.heap.size (svals s0) 28 :: blk w.heap.size [.slice a n c, .int .i64 cap, .int .i64 fuel] 24 :: []) := S7
  generalize w3.heap.size + 1 = qb at S8 ⊢
  generalize w3.heap.size = qa at S8 ⊢
  obtain ⟨pg, hpg⟩ : ∃ pg, pg = w.heap.size := ⟨_, rfl⟩
  rw [← hpg] at S8 ⊢
  clear hpg S1 S2 S3 S5 S6 S7 c0 HEQ0 HL0 HS0
  go_loopw [9] (fun i wr => ∃ (k : Nat) (s : VS), k ≤ m ∧ i = .int .i64 k ∧ s.Ok ∧ Sat w wr (blk qb (svals s) 28 :: blk qa (svals s) 28 :: blk pg [.slice a n c, .int .i64 cap, .int .i64 fuel] 24 :: [])) (fun i _ => m - (intOf i).toNat)
  case atStart => exact ⟨0, s0, by omega, rfl, hok, S8⟩
  case round =>
    clear S8 hok
    obtain ⟨k, s, hk, rfl, hso, S9⟩ := hrel
    by_cases hlt : k < m
    · obtain ⟨x, hx⟩ : ∃ x, ps[k]? = some x := ⟨ps[k]'(by rw [HM.out]; exact hlt), List.getElem?_eq_getElem _⟩
      have hpx := HPB.out x (List.mem_of_getElem? hx)
      obtain ⟨i0, i1⟩ := x
      obtain ⟨t, er, hr⟩ : ∃ t er, stepP code cap fuel s i0 i1 = (t, er) := ⟨_, _, rfl⟩
      have hto : t.Ok := by have := stepP_ok (code := code) (cap := cap) (fuel := fuel) hso hpx.1 hpx.2; rw [hr] at this; exact this
      have HR := Lib.hid hr
      have HTL := Lib.hid (svals_length hto.len)
      have HSL := Lib.hid (svals_length hso.len)
      obtain ⟨bb, off, rfl, p0, p1⟩ := pairsv_cells (HRB.out _ _ S9) hx
      clear p0 p1
      have HPC := Lib.hid (fun (L : List Asn) (w' : World) (h : Sat w w' L) => show w'.cell? ⟨bb, off + k * 2, none⟩ = some (.int .u16 i0) ∧ w'.cell? ⟨bb, off + k * 2 + 1, none⟩ = some (.int .u16 i1) from
        ⟨(HRB.out L w' h).at (pairsv_at hx).1, by have := (HRB.out L w' h).at (pairsv_at hx).2; rwa [← Nat.add_assoc] at this⟩)
      have k0 : (0 : Int) ≤ (k : Int) := Int.natCast_nonneg _
      have k1 : (k : Int) < (m : Int) := by omega
      have hpx0 : 0 ≤ i0 ∧ i0 < 65536 := hpx.1
      have hpx1 : 0 ≤ i1 ∧ i1 < 65536 := hpx.2
      clear hr hx hpx
      go_upto_region 9 with fail
      go_cut [10, 11] (fun v2 v3 wx => ∃ y, v2 = .pointer (some ⟨y, 0, none⟩) ∧ v3 = .int .i64 er ∧ Sat w wx (blk y (svals t) 28 :: blk qb (svals s) 28 :: blk qa (svals s) 28 :: blk pg [.slice a n c, .int .i64 cap, .int .i64 fuel] 24 :: []))
      case first =>
        have Sd := S9.drew
        refine wp_region_held_drew (S := (fun w' => (∀ j, j < 20 → w'.cell? ⟨qa, 0 + j, none⟩ = (svals s)[j]?) ∧ (w'.cell? ⟨pg, 0, none⟩ = some (.slice a n c) ∧ w'.cell? ⟨pg, 1, none⟩ = some (.int .i64 cap) ∧ w'.cell? ⟨pg, 2, none⟩ = some (.int .i64 fuel)) ∧ w'.cell? ⟨bb, off + k * 2, none⟩ = some (.int .u16 i0) ∧ w'.cell? ⟨bb, off + k * 2 + 1, none⟩ = some (.int .u16 i1))) (by kernel_rfl) ⟨Sat.whole (Sd.sel [1]) 20, gat (Sd.sel [2]), HPC.out _ _ Sd⟩ (fun hHeld => ?_)
        first
          | (refine wpAnyH_take (i := 0) (v := ?_) rfl (by kernel_rfl) (by kernel_rfl) (by kernel_rfl) (fun _ _ _ h => h) (Or.inl ⟨by rfl, ?_⟩) (by assumption) ?_
             rotate_left
             · (intro w hSw; (try dsimp only at hSw); first | (go_simp; done) | (go_simp; with_reducible rfl))
             (try simp only [Act.put, List.getElem_toArray, List.getElem_cons_zero, List.getElem_cons_succ, List.setIfInBounds_toArray, List.set_cons_zero, List.set_cons_succ]))
          | fail
        refine wpAnyH_take (i := 1) rfl (by kernel_rfl) (by kernel_rfl) (by kernel_rfl) (fun _ _ _ h => h) (yields_load_part rfl 28 _ rfl (g := qa) (off := 0) (n := 20) (cs := svals s) rfl (fun w h => h.1) HSL.out Try.underlying28 rfl Try.sizeS) (by assumption) ?_
        try simp only [Act.put, List.getElem_toArray, List.getElem_cons_zero, List.getElem_cons_succ, List.setIfInBounds_toArray, List.set_cons_zero, List.set_cons_succ]
        first
          | (refine wpAnyH_take (i := 2) (v := ?_) rfl (by kernel_rfl) (by kernel_rfl) (by kernel_rfl) (fun _ _ _ h => h) (Or.inl ⟨by rfl, ?_⟩) (by assumption) ?_
             rotate_left
             · (intro w hSw; (try dsimp only at hSw); first | (go_simp; done) | (go_simp; with_reducible rfl))
             (try simp only [Act.put, List.getElem_toArray, List.getElem_cons_zero, List.getElem_cons_succ, List.setIfInBounds_toArray, List.set_cons_zero, List.set_cons_succ]))
          | fail
        first
          | (refine wpAnyH_take (i := 3) (v := ?_) rfl (by kernel_rfl) (by kernel_rfl) (by kernel_rfl) (fun _ _ _ h => h) (Or.inl ⟨by rfl, ?_⟩) (by assumption) ?_
             rotate_left
             · (intro w hSw; (try dsimp only at hSw); first | (go_simp; done) | (go_simp; with_reducible rfl))
             (try simp only [Act.put, List.getElem_toArray, List.getElem_cons_zero, List.getElem_cons_succ, List.setIfInBounds_toArray, List.set_cons_zero, List.set_cons_succ]))
          | fail
        first
          | (refine wpAnyH_take (i := 4) (v := ?_) rfl (by kernel_rfl) (by kernel_rfl) (by kernel_rfl) (fun _ _ _ h => h) (Or.inl ⟨by rfl, ?_⟩) (by assumption) ?_
             rotate_left
             · (intro w hSw; (try dsimp only at hSw); first | (go_simp; done) | (go_simp; with_reducible rfl))
             (try simp only [Act.put, List.getElem_toArray, List.getElem_cons_zero, List.getElem_cons_succ, List.setIfInBounds_toArray, List.set_cons_zero, List.set_cons_succ]))
          | fail
        first
          | (refine wpAnyH_take (i := 5) (v := ?_) rfl (by kernel_rfl) (by kernel_rfl) (by kernel_rfl) (fun _ _ _ h => h) (Or.inl ⟨by rfl, ?_⟩) (by assumption) ?_
             rotate_left
             · (intro w hSw; (try dsimp only at hSw); first | (go_simp; done) | (go_simp; with_reducible rfl))
             (try simp only [Act.put, List.getElem_toArray, List.getElem_cons_zero, List.getElem_cons_succ, List.setIfInBounds_toArray, List.set_cons_zero, List.set_cons_succ]))
          | fail
        refine wpAnyH_ready (rs := [6, 10]) (by kernel_rfl) (by simp) ?_
        refine AllReadyH.cons rfl ?_ (AllReadyH.cons rfl ?_ AllReadyH.nil)
        · intro K hK
          go_simp
          go_at_call 15
          refine (vStep_any Sd (HRD.out _) HN.out hnm cap fuel hso i0 i1 hpx0 hpx1).mono ?_
          unfold Stepped
          rintro e w3 ⟨rfl, Sx2⟩
          rw [HR.out]
          go_wp2_with fail
          refine hK.out _ _ ⟨Sat.whole (Sx2.sel [1]) 20, gat (Sx2.sel [2]), HPC.out _ _ Sx2⟩ (fun h2 => ?_)
          clear hK K hHeld
          try simp only [Act.put, List.getElem_toArray, List.getElem_cons_zero, List.getElem_cons_succ, List.setIfInBounds_toArray, List.set_cons_zero, List.set_cons_succ]
          first
            | (refine wpAnyH_take (i := 7) (v := ?_) rfl (by kernel_rfl) (by kernel_rfl) (by kernel_rfl) (fun _ _ _ h => h) (Or.inl ⟨by rfl, ?_⟩) (by assumption) ?_
               rotate_left
               · (intro w hSw; (try dsimp only at hSw); first | (go_simp; done) | (go_simp; with_reducible rfl))
               (try simp only [Act.put, List.getElem_toArray, List.getElem_cons_zero, List.getElem_cons_succ, List.setIfInBounds_toArray, List.set_cons_zero, List.set_cons_succ]))
            | fail
          first
            | (refine wpAnyH_take (i := 8) (v := ?_) rfl (by kernel_rfl) (by kernel_rfl) (by kernel_rfl) (fun _ _ _ h => h) (Or.inl ⟨by rfl, ?_⟩) (by assumption) ?_
               rotate_left
               · (intro w hSw; (try dsimp only at hSw); first | (go_simp; done) | (go_simp; with_reducible rfl))
               (try simp only [Act.put, List.getElem_toArray, List.getElem_cons_zero, List.getElem_cons_succ, List.setIfInBounds_toArray, List.set_cons_zero, List.set_cons_succ]))
            | fail
          first
            | (refine wpAnyH_take (i := 9) (v := ?_) rfl (by kernel_rfl) (by kernel_rfl) (by kernel_rfl) (fun _ _ _ h => h) (Or.inl ⟨by rfl, ?_⟩) (by assumption) ?_
               rotate_left
               · (intro w hSw; (try dsimp only at hSw); first | (go_simp; done) | (go_simp; with_reducible rfl))
               (try simp only [Act.put, List.getElem_toArray, List.getElem_cons_zero, List.getElem_cons_succ, List.setIfInBounds_toArray, List.set_cons_zero, List.set_cons_succ]))
            | fail
          refine wpAnyH_ready (rs := [10]) (by kernel_rfl) (by simp) ?_
          refine AllReadyH.cons rfl ?_ AllReadyH.nil
          intro K hK
          go_simp
          have Sx3 := Sx2.alloc [.int .i64 0, .int .i32 0, .int .i32 0, .int .i32 0, .int .i32 0, .int .i32 0, .int .i32 0, .int .i32 0, .int .i32 0, .int .i32 0, .int .i32 0, .int .i32 0, .int .i32 0, .int .i32 0, .int .i32 0, .int .i32 0, .int .i32 0, .int .u32 0, .bool false, .int .i64 0] 28
          refine hK.out _ _ ⟨Sat.whole (Sx3.sel [2]) 20, gat (Sx3.sel [3]), HPC.out _ _ Sx3⟩ (fun h3 => ?_)
          clear hK K h2
          try simp only [Act.put, List.getElem_toArray, List.getElem_cons_zero, List.getElem_cons_succ, List.setIfInBounds_toArray, List.set_cons_zero, List.set_cons_succ]
          refine wpAnyH_ready (rs := [11]) (by kernel_rfl) (by simp) ?_
          refine AllReadyH.cons rfl ?_ AllReadyH.nil
          intro K hK
          refine step_store_sat (off := 0) (n := 20) rfl 28 _ _ rfl Sx3 rfl rfl HTL.out (by decide) Try.sizeS (svals_one t) ?_
          intro w4 Sx4
          rw [zstore] at Sx4
          refine hK.out _ _ ⟨Sat.whole (Sx4.sel [2]) 20, gat (Sx4.sel [3]), HPC.out _ _ Sx4⟩ (fun h4 => ?_)
          clear hK K h3
          try simp only [Act.put, List.getElem_toArray, List.getElem_cons_zero, List.getElem_cons_succ, List.setIfInBounds_toArray, List.set_cons_zero, List.set_cons_succ]
          first
            | (refine wpAnyH_take (i := 12) (v := ?_) rfl (by kernel_rfl) (by kernel_rfl) (by kernel_rfl) (fun _ _ _ h => h) (Or.inl ⟨by rfl, ?_⟩) (by assumption) ?_
               rotate_left
               · (intro w hSw; (try dsimp only at hSw); first | (go_simp; done) | (go_simp; with_reducible rfl))
               (try simp only [Act.put, List.getElem_toArray, List.getElem_cons_zero, List.getElem_cons_succ, List.setIfInBounds_toArray, List.set_cons_zero, List.set_cons_succ]))
            | fail
          refine wpAnyH_done (by kernel_rfl) ?_ _
          try simp only [List.getElem_toArray, List.getElem_cons_zero, List.getElem_cons_succ, List.setIfInBounds_toArray, List.set_cons_zero, List.set_cons_succ]
          go_wp2_with fail
          go_meet
          exact ⟨_, rfl, rfl, Sx4⟩
        · intro K hK
          go_simp
          have Sx2 := Sd.alloc [.int .i64 0, .int .i32 0, .int .i32 0, .int .i32 0, .int .i32 0, .int .i32 0, .int .i32 0, .int .i32 0, .int .i32 0, .int .i32 0, .int .i32 0, .int .i32 0, .int .i32 0, .int .i32 0, .int .i32 0, .int .i32 0, .int .i32 0, .int .u32 0, .bool false, .int .i64 0] 28
          refine hK.out _ _ ⟨Sat.whole (Sx2.sel [2]) 20, gat (Sx2.sel [3]), HPC.out _ _ Sx2⟩ (fun h2 => ?_)
          clear hK K hHeld
          try simp only [Act.put, List.getElem_toArray, List.getElem_cons_zero, List.getElem_cons_succ, List.setIfInBounds_toArray, List.set_cons_zero, List.set_cons_succ]
          refine wpAnyH_ready (rs := [6]) (by kernel_rfl) (by simp) ?_
          refine AllReadyH.cons rfl ?_ AllReadyH.nil
          intro K hK
          go_simp
          go_at_call 15
          refine (vStep_any Sx2 (HRD.out _) HN.out hnm cap fuel hso i0 i1 hpx0 hpx1).mono ?_
          unfold Stepped
          rintro e w3 ⟨rfl, Sx3⟩
          rw [HR.out]
          go_wp2_with fail
          refine hK.out _ _ ⟨Sat.whole (Sx3.sel [2]) 20, gat (Sx3.sel [3]), HPC.out _ _ Sx3⟩ (fun h3 => ?_)
          clear hK K h2
          try simp only [Act.put, List.getElem_toArray, List.getElem_cons_zero, List.getElem_cons_succ, List.setIfInBounds_toArray, List.set_cons_zero, List.set_cons_succ]
          first
            | (refine wpAnyH_take (i := 7) (v := ?_) rfl (by kernel_rfl) (by kernel_rfl) (by kernel_rfl) (fun _ _ _ h => h) (Or.inl ⟨by rfl, ?_⟩) (by assumption) ?_
               rotate_left
               · (intro w hSw; (try dsimp only at hSw); first | (go_simp; done) | (go_simp; with_reducible rfl))
               (try simp only [Act.put, List.getElem_toArray, List.getElem_cons_zero, List.getElem_cons_succ, List.setIfInBounds_toArray, List.set_cons_zero, List.set_cons_succ]))
            | fail
          first
            | (refine wpAnyH_take (i := 8) (v := ?_) rfl (by kernel_rfl) (by kernel_rfl) (by kernel_rfl) (fun _ _ _ h => h) (Or.inl ⟨by rfl, ?_⟩) (by assumption) ?_
               rotate_left
               · (intro w hSw; (try dsimp only at hSw); first | (go_simp; done) | (go_simp; with_reducible rfl))
               (try simp only [Act.put, List.getElem_toArray, List.getElem_cons_zero, List.getElem_cons_succ, List.setIfInBounds_toArray, List.set_cons_zero, List.set_cons_succ]))
            | fail
          first
            | (refine wpAnyH_take (i := 9) (v := ?_) rfl (by kernel_rfl) (by kernel_rfl) (by kernel_rfl) (fun _ _ _ h => h) (Or.inl ⟨by rfl, ?_⟩) (by assumption) ?_
               rotate_left
               · (intro w hSw; (try dsimp only at hSw); first | (go_simp; done) | (go_simp; with_reducible rfl))
               (try simp only [Act.put, List.getElem_toArray, List.getElem_cons_zero, List.getElem_cons_succ, List.setIfInBounds_toArray, List.set_cons_zero, List.set_cons_succ]))
            | fail
          refine wpAnyH_ready (rs := [11]) (by kernel_rfl) (by simp) ?_
          refine AllReadyH.cons rfl ?_ AllReadyH.nil
          intro K hK
          refine step_store_sat (off := 0) (n := 20) rfl 28 _ _ rfl Sx3 rfl rfl HTL.out (by decide) Try.sizeS (svals_one t) ?_
          intro w4 Sx4
          rw [zstore] at Sx4
          refine hK.out _ _ ⟨Sat.whole (Sx4.sel [2]) 20, gat (Sx4.sel [3]), HPC.out _ _ Sx4⟩ (fun h4 => ?_)
          clear hK K h3
          try simp only [Act.put, List.getElem_toArray, List.getElem_cons_zero, List.getElem_cons_succ, List.setIfInBounds_toArray, List.set_cons_zero, List.set_cons_succ]
          first
            | (refine wpAnyH_take (i := 12) (v := ?_) rfl (by kernel_rfl) (by kernel_rfl) (by kernel_rfl) (fun _ _ _ h => h) (Or.inl ⟨by rfl, ?_⟩) (by assumption) ?_
               rotate_left
               · (intro w hSw; (try dsimp only at hSw); first | (go_simp; done) | (go_simp; with_reducible rfl))
               (try simp only [Act.put, List.getElem_toArray, List.getElem_cons_zero, List.getElem_cons_succ, List.setIfInBounds_toArray, List.set_cons_zero, List.set_cons_succ]))
            | fail
          refine wpAnyH_done (by kernel_rfl) ?_ _
          try simp only [List.getElem_toArray, List.getElem_cons_zero, List.getElem_cons_succ, List.setIfInBounds_toArray, List.set_cons_zero, List.set_cons_succ]
          go_wp2_with fail
          go_meet
          exact ⟨_, rfl, rfl, Sx4⟩
      case rest =>
        obtain ⟨y, rfl, rfl, S10⟩ := hcut
        clear S9
        go_upto_region 10 with fail
        go_cut [12, 13] (fun v2 v3 wx => ∃ y2, v2 = .pointer (some ⟨y2, 0, none⟩) ∧ v3 = .int .i64 er ∧ Sat w wx (blk y2 (svals t) 28 :: blk y (svals t) 28 :: blk qb (svals s) 28 :: blk qa (svals s) 28 :: blk pg [.slice a n c, .int .i64 cap, .int .i64 fuel] 24 :: []))
        case first =>
          have Sd := S10.drew
          refine wp_region_held_drew (S := (fun w' => (∀ j, j < 20 → w'.cell? ⟨qb, 0 + j, none⟩ = (svals s)[j]?) ∧ (w'.cell? ⟨pg, 0, none⟩ = some (.slice a n c) ∧ w'.cell? ⟨pg, 1, none⟩ = some (.int .i64 cap) ∧ w'.cell? ⟨pg, 2, none⟩ = some (.int .i64 fuel)) ∧ w'.cell? ⟨bb, off + k * 2, none⟩ = some (.int .u16 i0) ∧ w'.cell? ⟨bb, off + k * 2 + 1, none⟩ = some (.int .u16 i1))) (by kernel_rfl) ⟨Sat.whole (Sd.sel [1]) 20, gat (Sd.sel [3]), HPC.out _ _ Sd⟩ (fun hHeld => ?_)
          first
            | (refine wpAnyH_take (i := 0) (v := ?_) rfl (by kernel_rfl) (by kernel_rfl) (by kernel_rfl) (fun _ _ _ h => h) (Or.inl ⟨by rfl, ?_⟩) (by assumption) ?_
               rotate_left
               · (intro w hSw; (try dsimp only at hSw); first | (go_simp; done) | (go_simp; with_reducible rfl))
               (try simp only [Act.put, List.getElem_toArray, List.getElem_cons_zero, List.getElem_cons_succ, List.setIfInBounds_toArray, List.set_cons_zero, List.set_cons_succ]))
            | fail
          refine wpAnyH_take (i := 1) rfl (by kernel_rfl) (by kernel_rfl) (by kernel_rfl) (fun _ _ _ h => h) (yields_load_part rfl 28 _ rfl (g := qb) (off := 0) (n := 20) (cs := svals s) rfl (fun w h => h.1) HSL.out Try.underlying28 rfl Try.sizeS) (by assumption) ?_
          try simp only [Act.put, List.getElem_toArray, List.getElem_cons_zero, List.getElem_cons_succ, List.setIfInBounds_toArray, List.set_cons_zero, List.set_cons_succ]
          first
            | (refine wpAnyH_take (i := 2) (v := ?_) rfl (by kernel_rfl) (by kernel_rfl) (by kernel_rfl) (fun _ _ _ h => h) (Or.inl ⟨by rfl, ?_⟩) (by assumption) ?_
               rotate_left
               · (intro w hSw; (try dsimp only at hSw); first | (go_simp; done) | (go_simp; with_reducible rfl))
               (try simp only [Act.put, List.getElem_toArray, List.getElem_cons_zero, List.getElem_cons_succ, List.setIfInBounds_toArray, List.set_cons_zero, List.set_cons_succ]))
            | fail
          first
            | (refine wpAnyH_take (i := 3) (v := ?_) rfl (by kernel_rfl) (by kernel_rfl) (by kernel_rfl) (fun _ _ _ h => h) (Or.inl ⟨by rfl, ?_⟩) (by assumption) ?_
               rotate_left
               · (intro w hSw; (try dsimp only at hSw); first | (go_simp; done) | (go_simp; with_reducible rfl))
               (try simp only [Act.put, List.getElem_toArray, List.getElem_cons_zero, List.getElem_cons_succ, List.setIfInBounds_toArray, List.set_cons_zero, List.set_cons_succ]))
            | fail
          first
            | (refine wpAnyH_take (i := 4) (v := ?_) rfl (by kernel_rfl) (by kernel_rfl) (by kernel_rfl) (fun _ _ _ h => h) (Or.inl ⟨by rfl, ?_⟩) (by assumption) ?_
               rotate_left
               · (intro w hSw; (try dsimp only at hSw); first | (go_simp; done) | (go_simp; with_reducible rfl))
               (try simp only [Act.put, List.getElem_toArray, List.getElem_cons_zero, List.getElem_cons_succ, List.setIfInBounds_toArray, List.set_cons_zero, List.set_cons_succ]))
            | fail
          first
            | (refine wpAnyH_take (i := 5) (v := ?_) rfl (by kernel_rfl) (by kernel_rfl) (by kernel_rfl) (fun _ _ _ h => h) (Or.inl ⟨by rfl, ?_⟩) (by assumption) ?_
               rotate_left
               · (intro w hSw; (try dsimp only at hSw); first | (go_simp; done) | (go_simp; with_reducible rfl))
               (try simp only [Act.put, List.getElem_toArray, List.getElem_cons_zero, List.getElem_cons_succ, List.setIfInBounds_toArray, List.set_cons_zero, List.set_cons_succ]))
            | fail
          refine wpAnyH_ready (rs := [6, 10]) (by kernel_rfl) (by simp) ?_
          refine AllReadyH.cons rfl ?_ (AllReadyH.cons rfl ?_ AllReadyH.nil)
          · intro K hK
            go_simp
            go_at_call 16
            refine (r10step_any Sd (HRD.out _) HN.out hnm cap fuel hso i0 i1 hpx0 hpx1).mono ?_
            unfold Stepped
            rintro e w3 ⟨rfl, Sx2⟩
            rw [HR.out]
            go_wp2_with fail
            refine hK.out _ _ ⟨Sat.whole (Sx2.sel [1]) 20, gat (Sx2.sel [3]), HPC.out _ _ Sx2⟩ (fun h2 => ?_)
            clear hK K hHeld
            try simp only [Act.put, List.getElem_toArray, List.getElem_cons_zero, List.getElem_cons_succ, List.setIfInBounds_toArray, List.set_cons_zero, List.set_cons_succ]
            first
              | (refine wpAnyH_take (i := 7) (v := ?_) rfl (by kernel_rfl) (by kernel_rfl) (by kernel_rfl) (fun _ _ _ h => h) (Or.inl ⟨by rfl, ?_⟩) (by assumption) ?_
                 rotate_left
                 · (intro w hSw; (try dsimp only at hSw); first | (go_simp; done) | (go_simp; with_reducible rfl))
                 (try simp only [Act.put, List.getElem_toArray, List.getElem_cons_zero, List.getElem_cons_succ, List.setIfInBounds_toArray, List.set_cons_zero, List.set_cons_succ]))
              | fail
            first
              | (refine wpAnyH_take (i := 8) (v := ?_) rfl (by kernel_rfl) (by kernel_rfl) (by kernel_rfl) (fun _ _ _ h => h) (Or.inl ⟨by rfl, ?_⟩) (by assumption) ?_
                 rotate_left
                 · (intro w hSw; (try dsimp only at hSw); first | (go_simp; done) | (go_simp; with_reducible rfl))
                 (try simp only [Act.put, List.getElem_toArray, List.getElem_cons_zero, List.getElem_cons_succ, List.setIfInBounds_toArray, List.set_cons_zero, List.set_cons_succ]))
              | fail
            first
              | (refine wpAnyH_take (i := 9) (v := ?_) rfl (by kernel_rfl) (by kernel_rfl) (by kernel_rfl) (fun _ _ _ h => h) (Or.inl ⟨by rfl, ?_⟩) (by assumption) ?_
                 rotate_left
                 · (intro w hSw; (try dsimp only at hSw); first | (go_simp; done) | (go_simp; with_reducible rfl))
                 (try simp only [Act.put, List.getElem_toArray, List.getElem_cons_zero, List.getElem_cons_succ, List.setIfInBounds_toArray, List.set_cons_zero, List.set_cons_succ]))
              | fail
            refine wpAnyH_ready (rs := [10]) (by kernel_rfl) (by simp) ?_
            refine AllReadyH.cons rfl ?_ AllReadyH.nil
            intro K hK
            go_simp
            have Sx3 := Sx2.alloc [.int .i64 0, .int .i32 0, .int .i32 0, .int .i32 0, .int .i32 0, .int .i32 0, .int .i32 0, .int .i32 0, .int .i32 0, .int .i32 0, .int .i32 0, .int .i32 0, .int .i32 0, .int .i32 0, .int .i32 0, .int .i32 0, .int .i32 0, .int .u32 0, .bool false, .int .i64 0] 28
            refine hK.out _ _ ⟨Sat.whole (Sx3.sel [2]) 20, gat (Sx3.sel [4]), HPC.out _ _ Sx3⟩ (fun h3 => ?_)
            clear hK K h2
            try simp only [Act.put, List.getElem_toArray, List.getElem_cons_zero, List.getElem_cons_succ, List.setIfInBounds_toArray, List.set_cons_zero, List.set_cons_succ]
            refine wpAnyH_ready (rs := [11]) (by kernel_rfl) (by simp) ?_
            refine AllReadyH.cons rfl ?_ AllReadyH.nil
            intro K hK
            refine step_store_sat (off := 0) (n := 20) rfl 28 _ _ rfl Sx3 rfl rfl HTL.out (by decide) Try.sizeS (svals_one t) ?_
            intro w4 Sx4
            rw [zstore] at Sx4
            refine hK.out _ _ ⟨Sat.whole (Sx4.sel [2]) 20, gat (Sx4.sel [4]), HPC.out _ _ Sx4⟩ (fun h4 => ?_)
            clear hK K h3
            try simp only [Act.put, List.getElem_toArray, List.getElem_cons_zero, List.getElem_cons_succ, List.setIfInBounds_toArray, List.set_cons_zero, List.set_cons_succ]
            first
              | (refine wpAnyH_take (i := 12) (v := ?_) rfl (by kernel_rfl) (by kernel_rfl) (by kernel_rfl) (fun _ _ _ h => h) (Or.inl ⟨by rfl, ?_⟩) (by assumption) ?_
                 rotate_left
                 · (intro w hSw; (try dsimp only at hSw); first | (go_simp; done) | (go_simp; with_reducible rfl))
                 (try simp only [Act.put, List.getElem_toArray, List.getElem_cons_zero, List.getElem_cons_succ, List.setIfInBounds_toArray, List.set_cons_zero, List.set_cons_succ]))
              | fail
            refine wpAnyH_done (by kernel_rfl) ?_ _
            try simp only [List.getElem_toArray, List.getElem_cons_zero, List.getElem_cons_succ, List.setIfInBounds_toArray, List.set_cons_zero, List.set_cons_succ]
            go_wp2_with fail
            go_meet
            exact ⟨_, rfl, rfl, Sx4⟩
          · intro K hK
            go_simp
            have Sx2 := Sd.alloc [.int .i64 0, .int .i32 0, .int .i32 0, .int .i32 0, .int .i32 0, .int .i32 0, .int .i32 0, .int .i32 0, .int .i32 0, .int .i32 0, .int .i32 0, .int .i32 0, .int .i32 0, .int .i32 0, .int .i32 0, .int .i32 0, .int .i32 0, .int .u32 0, .bool false, .int .i64 0] 28
            refine hK.out _ _ ⟨Sat.whole (Sx2.sel [2]) 20, gat (Sx2.sel [4]), HPC.out _ _ Sx2⟩ (fun h2 => ?_)
            clear hK K hHeld
            try simp only [Act.put, List.getElem_toArray, List.getElem_cons_zero, List.getElem_cons_succ, List.setIfInBounds_toArray, List.set_cons_zero, List.set_cons_succ]
            refine wpAnyH_ready (rs := [6]) (by kernel_rfl) (by simp) ?_
            refine AllReadyH.cons rfl ?_ AllReadyH.nil
            intro K hK
            go_simp
            go_at_call 16
            refine (r10step_any Sx2 (HRD.out _) HN.out hnm cap fuel hso i0 i1 hpx0 hpx1).mono ?_
            unfold Stepped
            rintro e w3 ⟨rfl, Sx3⟩
            rw [HR.out]
            go_wp2_with fail
            refine hK.out _ _ ⟨Sat.whole (Sx3.sel [2]) 20, gat (Sx3.sel [4]), HPC.out _ _ Sx3⟩ (fun h3 => ?_)
            clear hK K h2
            try simp only [Act.put, List.getElem_toArray, List.getElem_cons_zero, List.getElem_cons_succ, List.setIfInBounds_toArray, List.set_cons_zero, List.set_cons_succ]
            first
              | (refine wpAnyH_take (i := 7) (v := ?_) rfl (by kernel_rfl) (by kernel_rfl) (by kernel_rfl) (fun _ _ _ h => h) (Or.inl ⟨by rfl, ?_⟩) (by assumption) ?_
                 rotate_left
                 · (intro w hSw; (try dsimp only at hSw); first | (go_simp; done) | (go_simp; with_reducible rfl))
                 (try simp only [Act.put, List.getElem_toArray, List.getElem_cons_zero, List.getElem_cons_succ, List.setIfInBounds_toArray, List.set_cons_zero, List.set_cons_succ]))
              | fail
            first
              | (refine wpAnyH_take (i := 8) (v := ?_) rfl (by kernel_rfl) (by kernel_rfl) (by kernel_rfl) (fun _ _ _ h => h) (Or.inl ⟨by rfl, ?_⟩) (by assumption) ?_
                 rotate_left
                 · (intro w hSw; (try dsimp only at hSw); first | (go_simp; done) | (go_simp; with_reducible rfl))
                 (try simp only [Act.put, List.getElem_toArray, List.getElem_cons_zero, List.getElem_cons_succ, List.setIfInBounds_toArray, List.set_cons_zero, List.set_cons_succ]))
              | fail
            first
              | (refine wpAnyH_take (i := 9) (v := ?_) rfl (by kernel_rfl) (by kernel_rfl) (by kernel_rfl) (fun _ _ _ h => h) (Or.inl ⟨by rfl, ?_⟩) (by assumption) ?_
                 rotate_left
                 · (intro w hSw; (try dsimp only at hSw); first | (go_simp; done) | (go_simp; with_reducible rfl))
                 (try simp only [Act.put, List.getElem_toArray, List.getElem_cons_zero, List.getElem_cons_succ, List.setIfInBounds_toArray, List.set_cons_zero, List.set_cons_succ]))
              | fail
            refine wpAnyH_ready (rs := [11]) (by kernel_rfl) (by simp) ?_
            refine AllReadyH.cons rfl ?_ AllReadyH.nil
            intro K hK
            refine step_store_sat (off := 0) (n := 20) rfl 28 _ _ rfl Sx3 rfl rfl HTL.out (by decide) Try.sizeS (svals_one t) ?_
            intro w4 Sx4
            rw [zstore] at Sx4
            refine hK.out _ _ ⟨Sat.whole (Sx4.sel [2]) 20, gat (Sx4.sel [4]), HPC.out _ _ Sx4⟩ (fun h4 => ?_)
            clear hK K h3
            try simp only [Act.put, List.getElem_toArray, List.getElem_cons_zero, List.getElem_cons_succ, List.setIfInBounds_toArray, List.set_cons_zero, List.set_cons_succ]
            first
              | (refine wpAnyH_take (i := 12) (v := ?_) rfl (by kernel_rfl) (by kernel_rfl) (by kernel_rfl) (fun _ _ _ h => h) (Or.inl ⟨by rfl, ?_⟩) (by assumption) ?_
                 rotate_left
                 · (intro w hSw; (try dsimp only at hSw); first | (go_simp; done) | (go_simp; with_reducible rfl))
                 (try simp only [Act.put, List.getElem_toArray, List.getElem_cons_zero, List.getElem_cons_succ, List.setIfInBounds_toArray, List.set_cons_zero, List.set_cons_succ]))
              | fail
            refine wpAnyH_done (by kernel_rfl) ?_ _
            try simp only [List.getElem_toArray, List.getElem_cons_zero, List.getElem_cons_succ, List.setIfInBounds_toArray, List.set_cons_zero, List.set_cons_succ]
            go_wp2_with fail
            go_meet
            exact ⟨_, rfl, rfl, Sx4⟩
        case rest =>
          obtain ⟨y2, rfl, rfl, S11⟩ := hcut
          clear S10
          have HEQ := Lib.hid (fun w' => (run_neq_state (s := t) (t := t) w' hto.len hto.len).trans (by rw [decide_eq_true rfl]))
          have hne : (er != er) = false := by simp
          by_cases he : er = 0
          · subst he
            have hnx := stepP_next HR.out hso hpx0 hpx1
            have hbk : (svals s).take 0 ++ svals t ++ (svals s).drop (0 + 20) = svals t := by
              rw [List.take_zero, List.nil_append, List.drop_of_length_le (by rw [HSL.out]; omega), List.append_nil]
            have HBK := Lib.hid hbk
            have hX := st_at hto.len (S11.sel [1])
            have hXa := st_at hso.len (S11.sel [3])
            have x0 := hX.frame
            have x18 := hX.over
            have x19 := hX.winner
            have a0 := hXa.frame
            have gc := S11.cell 4 rfl 1
            simp only [List.getElem?_cons_zero, List.getElem?_cons_succ] at gc
            rw [hnx.1] at x0
            have hfb := hnx.2.2.2
            have hw2 := hnx.2.1
            have hcc := hnx.2.2.1
            rw [hnx.1] at hcc
            have hsf : (s.frame + 1 != s.frame + 1) = false := by simp
            clear hX hXa hnx hbk
            generalize t.winner = tw at x19 hw2
            cases hov : t.over with
            | true =>
              rw [hov] at x18
              clear hcc hov
              go_upto_region 17 with (first
                | (refine wpList_load_part rfl 28 _ rfl (n := 20) rfl (Sat.whole (S11.sel [1]) 20) HTL.out Try.underlying28 rfl Try.sizeS ?_)
                | (refine wpList_load_part rfl 28 _ rfl (n := 20) rfl (Sat.whole S11 20) HTL.out Try.underlying28 rfl Try.sizeS ?_)
                | (refine wpList_eq_agg rfl .neq 28 _ _ rfl (r := false) rfl rfl (by kernel_rfl) (HEQ.out _) ?_))
              have S12 := S11.drew
              refine wp_region_held_drew (S := (fun w' => (∀ j, j < 20 → w'.cell? ⟨y, 0 + j, none⟩ = (svals t)[j]?) ∧ (∀ j, j < 20 → w'.cell? ⟨y2, 0 + j, none⟩ = (svals t)[j]?))) (by kernel_rfl) ⟨Sat.whole (S12.sel [1]) 20, Sat.whole S12 20⟩ (fun hHeld => ?_)
              refine wpAnyH_take (i := 0) rfl (by kernel_rfl) (by kernel_rfl) (by kernel_rfl) (fun _ _ _ h => h) (yields_load_part rfl 28 _ rfl (g := y) (off := 0) (n := 20) (cs := svals t) rfl (fun w h => h.1) HTL.out Try.underlying28 rfl Try.sizeS) (by assumption) ?_
              try simp only [Act.put, List.getElem_toArray, List.getElem_cons_zero, List.getElem_cons_succ, List.setIfInBounds_toArray, List.set_cons_zero, List.set_cons_succ]
              refine wpAnyH_take (i := 1) rfl (by kernel_rfl) (by kernel_rfl) (by kernel_rfl) (fun _ _ _ h => h) (yields_load_part rfl 28 _ rfl (g := y2) (off := 0) (n := 20) (cs := svals t) rfl (fun w h => h.2) HTL.out Try.underlying28 rfl Try.sizeS) (by assumption) ?_
              try simp only [Act.put, List.getElem_toArray, List.getElem_cons_zero, List.getElem_cons_succ, List.setIfInBounds_toArray, List.set_cons_zero, List.set_cons_succ]
              refine wpAnyH_ready (rs := [2]) (by kernel_rfl) (by simp) ?_
              refine AllReadyH.cons rfl ?_ AllReadyH.nil
              intro K hK
              refine step_store_sat (off := 0) (n := 20) rfl 28 _ _ rfl (S12.sel [3]) rfl rfl HTL.out (by rw [HSL.out]; decide) Try.sizeS (svals_one t) ?_
              intro w4 S13
              rw [HBK.out] at S13
              refine hK.out _ _ ⟨Sat.whole (S13.sel [2]) 20, Sat.whole (S13.sel [1]) 20⟩ (fun h2 => ?_)
              clear hK K hHeld
              try simp only [Act.put, List.getElem_toArray, List.getElem_cons_zero, List.getElem_cons_succ, List.setIfInBounds_toArray, List.set_cons_zero, List.set_cons_succ]
              refine wpAnyH_ready (rs := [3]) (by kernel_rfl) (by simp) ?_
              refine AllReadyH.cons rfl ?_ AllReadyH.nil
              intro K hK
              refine step_store_sat (off := 0) (n := 20) rfl 28 _ _ rfl (S13.sel [3]) rfl rfl HTL.out (by rw [HSL.out]; decide) Try.sizeS (svals_one t) ?_
              intro w4 S14
              rw [HBK.out] at S14
              refine hK.out _ _ ⟨Sat.whole (S14.sel [3]) 20, Sat.whole (S14.sel [2]) 20⟩ (fun h3 => ?_)
              clear hK K h2
              try simp only [Act.put, List.getElem_toArray, List.getElem_cons_zero, List.getElem_cons_succ, List.setIfInBounds_toArray, List.set_cons_zero, List.set_cons_succ]
              refine wpAnyH_done (by kernel_rfl) ?_ _
              try simp only [List.getElem_toArray, List.getElem_cons_zero, List.getElem_cons_succ, List.setIfInBounds_toArray, List.set_cons_zero, List.set_cons_succ]
              go_wp2_with fail
              go_roundw
              case rel => exact ⟨k + 1, t, by omega, by go_num, hto, (((S14.sel [2]).tail).sel [2]).tail⟩
              case measure => simp [intOf]; omega
            | false =>
              rw [hov] at x18
              have hcl := hcc hov
              clear hcc hov
              go_upto_region 17 with (first
                | (refine wpList_load_part rfl 28 _ rfl (n := 20) rfl (Sat.whole (S11.sel [1]) 20) HTL.out Try.underlying28 rfl Try.sizeS ?_)
                | (refine wpList_load_part rfl 28 _ rfl (n := 20) rfl (Sat.whole S11 20) HTL.out Try.underlying28 rfl Try.sizeS ?_)
                | (refine wpList_eq_agg rfl .neq 28 _ _ rfl (r := false) rfl rfl (by kernel_rfl) (HEQ.out _) ?_))
              have S12 := S11.drew
              refine wp_region_held_drew (S := (fun w' => (∀ j, j < 20 → w'.cell? ⟨y, 0 + j, none⟩ = (svals t)[j]?) ∧ (∀ j, j < 20 → w'.cell? ⟨y2, 0 + j, none⟩ = (svals t)[j]?))) (by kernel_rfl) ⟨Sat.whole (S12.sel [1]) 20, Sat.whole S12 20⟩ (fun hHeld => ?_)
              refine wpAnyH_take (i := 0) rfl (by kernel_rfl) (by kernel_rfl) (by kernel_rfl) (fun _ _ _ h => h) (yields_load_part rfl 28 _ rfl (g := y) (off := 0) (n := 20) (cs := svals t) rfl (fun w h => h.1) HTL.out Try.underlying28 rfl Try.sizeS) (by assumption) ?_
              try simp only [Act.put, List.getElem_toArray, List.getElem_cons_zero, List.getElem_cons_succ, List.setIfInBounds_toArray, List.set_cons_zero, List.set_cons_succ]
              refine wpAnyH_take (i := 1) rfl (by kernel_rfl) (by kernel_rfl) (by kernel_rfl) (fun _ _ _ h => h) (yields_load_part rfl 28 _ rfl (g := y2) (off := 0) (n := 20) (cs := svals t) rfl (fun w h => h.2) HTL.out Try.underlying28 rfl Try.sizeS) (by assumption) ?_
              try simp only [Act.put, List.getElem_toArray, List.getElem_cons_zero, List.getElem_cons_succ, List.setIfInBounds_toArray, List.set_cons_zero, List.set_cons_succ]
              refine wpAnyH_ready (rs := [2]) (by kernel_rfl) (by simp) ?_
              refine AllReadyH.cons rfl ?_ AllReadyH.nil
              intro K hK
              refine step_store_sat (off := 0) (n := 20) rfl 28 _ _ rfl (S12.sel [3]) rfl rfl HTL.out (by rw [HSL.out]; decide) Try.sizeS (svals_one t) ?_
              intro w4 S13
              rw [HBK.out] at S13
              refine hK.out _ _ ⟨Sat.whole (S13.sel [2]) 20, Sat.whole (S13.sel [1]) 20⟩ (fun h2 => ?_)
              clear hK K hHeld
              try simp only [Act.put, List.getElem_toArray, List.getElem_cons_zero, List.getElem_cons_succ, List.setIfInBounds_toArray, List.set_cons_zero, List.set_cons_succ]
              refine wpAnyH_ready (rs := [3]) (by kernel_rfl) (by simp) ?_
              refine AllReadyH.cons rfl ?_ AllReadyH.nil
              intro K hK
              refine step_store_sat (off := 0) (n := 20) rfl 28 _ _ rfl (S13.sel [3]) rfl rfl HTL.out (by rw [HSL.out]; decide) Try.sizeS (svals_one t) ?_
              intro w4 S14
              rw [HBK.out] at S14
              refine hK.out _ _ ⟨Sat.whole (S14.sel [3]) 20, Sat.whole (S14.sel [2]) 20⟩ (fun h3 => ?_)
              clear hK K h2
              try simp only [Act.put, List.getElem_toArray, List.getElem_cons_zero, List.getElem_cons_succ, List.setIfInBounds_toArray, List.set_cons_zero, List.set_cons_succ]
              refine wpAnyH_done (by kernel_rfl) ?_ _
              try simp only [List.getElem_toArray, List.getElem_cons_zero, List.getElem_cons_succ, List.setIfInBounds_toArray, List.set_cons_zero, List.set_cons_succ]
              go_wp2_with fail
              go_roundw
              case rel => exact ⟨k + 1, t, by omega, by go_num, hto, (((S14.sel [2]).tail).sel [2]).tail⟩
              case measure => simp [intOf]; omega
          · have hz : (er == 0) = false := by simpa using he
            have hz2 : (er != 0) = true := by simpa using he
            go_wp2_with (first
              | (refine wpList_load_part rfl 28 _ rfl (n := 20) rfl (Sat.whole (S11.sel [1]) 20) HTL.out Try.underlying28 rfl Try.sizeS ?_)
              | (refine wpList_load_part rfl 28 _ rfl (n := 20) rfl (Sat.whole S11 20) HTL.out Try.underlying28 rfl Try.sizeS ?_)
              | (refine wpList_eq_agg rfl .neq 28 _ _ rfl (r := false) rfl rfl (by kernel_rfl) (HEQ.out _) ?_)
              | (go_at_call 19; refine (vknown_any S11).mono ?_; rintro e w6 ⟨rfl, S12⟩))
            go_ret
            exact ⟨rfl, S12.below⟩
    · go_wp2_with (go_at_call 19; refine (vknown_any S9).mono ?_; rintro e w6 ⟨rfl, S10⟩)
      go_ret
      exact ⟨rfl, S10.below⟩
end Go.Proofs.Ytlkmkclohkbjeaa
