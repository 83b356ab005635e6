/-
  The law VmReads, walked.
-/
import Derived.Test.YtlkmkclohkbjeaaVmK
import Derived.Test.YtlkmkclohkbjeaaVmF
import Derived.Test.YtlkmkclohkbjeaaArgs
namespace Go.Proofs.Ytlkmkclohkbjeaa
open Go.RowKit Go.Sep Go.Vm

theorem pair_rd {w : World} {c : List Value} {x : List Int} (r : (Kd.arr 2 (Kd.int .u16)).R w c x) : ∃ i0 i1 : Int, c = [.int .u16 i0, .int .u16 i1] ∧ (0 ≤ i0 ∧ i0 < 65536) ∧ (0 ≤ i1 ∧ i1 < 65536) := by
  obtain ⟨hx, els, rfl, hl, he⟩ := r
  obtain ⟨i0, i1, rfl⟩ : ∃ i0 i1, x = [i0, i1] := by
    match x, hx with
    | [i0, i1], _ => exact ⟨i0, i1, rfl⟩
  obtain ⟨e0, e1, rfl⟩ : ∃ e0 e1, els = [e0, e1] := by
    match els, hl with
    | [e0, e1], _ => exact ⟨e0, e1, rfl⟩
  obtain ⟨rfl, w0⟩ := he 0 e0 i0 rfl rfl
  obtain ⟨rfl, w1⟩ := he 1 e1 i1 rfl rfl
  have b0 : 0 ≤ i0 ∧ i0 ≤ 65535 := by simpa [Lit.wf, IntKind.min, IntKind.max, IntKind.signed, IntKind.bits] using w0
  have b1 : 0 ≤ i1 ∧ i1 ≤ 65535 := by simpa [Lit.wf, IntKind.min, IntKind.max, IntKind.signed, IntKind.bits] using w1
  exact ⟨i0, i1, rfl, ⟨b0.1, by omega⟩, ⟨b1.1, by omega⟩⟩

structure Plays (s : VS) (k : Nat) : Prop where
  ok : s.Ok
  frame : s.frame = k
  over : s.over = false
  winner : s.winner = 0
  seed : s.seed ≠ 0

theorem isP_plays {s : VS} (h0 : 0 ≤ s.frame) (h1 : s.frame ≤ 600) (ho : s.over = false) (hw : s.winner = 0) : isP s = true := by
  unfold isP
  rw [ho, hw]
  simp
  omega

set_option maxRecDepth 100000 in
set_option maxHeartbeats 3200000 in
theorem VmReads_walk {w : World} (i0 i1 cell frames : Int) (h0 : 0 ≤ i0 ∧ i0 < 65536) (h1 : 0 ≤ i1 ∧ i1 < 65536) :
    Calls Try.prog 11 #[.agg #[.int .u16 i0, .int .u16 i1], .int .i64 cell, .int .i64 frames] w fun e w' => e = .returned (.bool true) ∧ Below w.heap.size w w' := by
  have S0 := Sat.start w
  have SP := S0.alloc [.int .u16 i0, .int .u16 i1] 31
  by_cases hc1 : cell < 2
  · go_enter Try.func11, Try.ntmps11
    go_wp2_with (go_at_call 19; refine (vknown_any SP).mono ?_; rintro e w6 ⟨rfl, S6⟩)
    go_ret
    exact ⟨rfl, S6.below⟩
  by_cases hc2 : 16 ≤ cell
  · go_enter Try.func11, Try.ntmps11
    go_wp2_with (go_at_call 19; refine (vknown_any SP).mono ?_; rintro e w6 ⟨rfl, S6⟩)
    go_ret
    exact ⟨rfl, S6.below⟩
  by_cases hn1 : frames < 1
  · go_enter Try.func11, Try.ntmps11
    go_wp2_with (go_at_call 19; refine (vknown_any SP).mono ?_; rintro e w6 ⟨rfl, S6⟩)
    go_ret
    exact ⟨rfl, S6.below⟩
  by_cases hn2 : 30 < frames
  · go_enter Try.func11, Try.ntmps11
    go_wp2_with (go_at_call 19; refine (vknown_any SP).mono ?_; rintro e w6 ⟨rfl, S6⟩)
    go_ret
    exact ⟨rfl, S6.below⟩
  obtain ⟨N, rfl⟩ : ∃ N : Nat, frames = (N : Int) := ⟨frames.toNat, by omega⟩
  obtain ⟨C, rfl⟩ : ∃ C : Nat, cell = (C : Int) := ⟨cell.toNat, by omega⟩
  have hN1 : 1 ≤ N := by omega
  have hN2 : N ≤ 30 := by omega
  have hC1 : 2 ≤ C := by omega
  have hC2 : C < 16 := by omega
  have S1 : Sat w ((w.alloc (.cells #[.int .u16 i0, .int .u16 i1] 31)).alloc (.cells #[.int .i64 16, .int .i64 0, .int .i64 3, .int .i64 0, .int .i64 16, .int .i64 1, .int .i64 3, .int .i64 1, .int .i64 17, .int .i64 0, .int .i64 3, .int .i64 (C : Int)] 45)) (blk (w.alloc (.cells #[.int .u16 i0, .int .u16 i1] 31)).heap.size (insv (dcode C)) 45 :: blk w.heap.size [.int .u16 i0, .int .u16 i1] 31 :: []) := SP.alloc (insv (dcode C)) _
  have S2 := S1.alloc [.slice (some ⟨w.heap.size + 1, 0, none⟩) 6 6, .int .i64 100, .int .i64 20] 24
  simp only [World.size_alloc] at S2
  have hR0 : Plays (VS.start 1) 0 := ⟨start_ok (by omega), rfl, rfl, rfl, by decide⟩
  obtain ⟨s0, hs0⟩ : ∃ s0, VS.start 1 = s0 := ⟨_, rfl⟩
  rw [hs0] at hR0
  have HS0 := Lib.hid hs0
  have HL0 := Lib.hid (svals_length hR0.ok.len)
  clear hs0
  go_enter Try.func11, Try.ntmps11
  go_wp2_with (first
    | (refine wpList_store_sat (off := 0) (n := 20) rfl 28 _ _ rfl S4 rfl rfl HL0.out (by decide) Try.sizeS (svals_one s0) ?_; intro w5 S5; rw [zstore] at S5)
    | (go_at_call 20; refine (vStart_any S2 1 (by omega)).mono ?_; unfold StartsAt; rintro e w3 ⟨rfl, S3⟩; rw [HS0.out]; have S4 := S3.alloc [.int .i64 0, .int .i32 0, .int .i32 0, .int .i32 0, .int .i32 0, .int .i32 0, .int .i32 0, .int .i32 0, .int .i32 0, .int .i32 0, .int .i32 0, .int .i32 0, .int .i32 0, .int .i32 0, .int .i32 0, .int .i32 0, .int .i32 0, .int .u32 0, .bool false, .int .i64 0] 28))
  generalize w3.heap.size = ps at S5 ⊢
  generalize w.heap.size = pc at S5 ⊢
  clear S2 S1 S3 S4
  go_loopw [9] (fun i wr => ∃ (k : Nat) (s : VS), k ≤ N ∧ i = .int .i64 k ∧ Plays s k ∧ Sat w wr (blk ps (svals s) 28 :: blk (pc + 1 + 1) [.slice (some ⟨pc + 1, 0, none⟩) 6 6, .int .i64 100, .int .i64 20] 24 :: blk (pc + 1) (insv (dcode C)) 45 :: blk pc [.int .u16 i0, .int .u16 i1] 31 :: [])) (fun i _ => N - (intOf i).toNat)
  case atStart => exact ⟨0, s0, by omega, rfl, hR0, S5⟩
  case round =>
    clear S5 hR0 HL0 HS0
    obtain ⟨k, s, hk, rfl, hR, S6⟩ := hrel
    by_cases hlt : k < N
    · have hso := hR.ok
      have hfr := hR.frame
      have hst := dstep (s := s) (cell := C) ⟨hC1, hC2⟩ (i0 := i0) (i1 := i1) (isP_plays (by omega) (by omega) hR.over hR.winner) hR.seed hR.over (by omega)
      obtain ⟨t, ht⟩ : ∃ t : VS, t = { s with frame := s.frame + 1, cells := ((s.cells.set 0 i0).set 1 i1).set C s.frame } := ⟨_, rfl⟩
      rw [← ht] at hst
      have hl16 := hso.len
      have hto : t.Ok := by
        rw [ht]
        exact ⟨by simp [hso.len], fun c hc => by
          rcases List.mem_or_eq_of_mem_set hc with hc | rfl
          · rcases List.mem_or_eq_of_mem_set hc with hc | rfl
            · rcases List.mem_or_eq_of_mem_set hc with hc | rfl
              · exact hso.cells c hc
              · omega
            · omega
          · omega, by show -9223372036854775808 ≤ s.frame + 1 ∧ s.frame + 1 < 9223372036854775808; omega, hso.seed, hso.winner⟩
      have hR2 : Plays t (k + 1) := ⟨hto, by rw [ht]; show s.frame + 1 = ((k + 1 : Nat) : Int); omega, by rw [ht]; exact hR.over, by rw [ht]; exact hR.winner, by rw [ht]; exact hR.seed⟩
      have hc0 : (svals t)[1]? = some (.int .i32 i0) := by
        refine (svals_cell hto.len (k := 0) (by omega)).trans ?_
        rw [ht]
        simp only
        rw [List.getElem?_set_ne (by omega), List.getElem?_set_ne (by omega), List.getElem?_set_self (by omega)]
        rfl
      have hc1 : (svals t)[2]? = some (.int .i32 i1) := by
        refine (svals_cell hto.len (k := 1) (by omega)).trans ?_
        rw [ht]
        simp only
        rw [List.getElem?_set_ne (by omega), List.getElem?_set_self (by simp only [List.length_set]; omega)]
        rfl
      have hcC : (svals t)[1 + C]? = some (.int .i32 k) := by
        refine (svals_cell hto.len (k := C) hC2).trans ?_
        rw [ht]
        simp only
        rw [List.getElem?_set_self (by simp only [List.length_set]; omega), hfr]
        rfl
      have HST := Lib.hid hst
      have HTL := Lib.hid (svals_length hto.len)
      have HSL := Lib.hid (svals_length hso.len)
      have HC0 := Lib.hid hc0
      have HC1 := Lib.hid hc1
      have HCC := Lib.hid hcC
      have hbk : (svals s).take 0 ++ svals t ++ (svals s).drop (0 + 20) = svals t := by
        rw [List.take_zero, List.nil_append, List.drop_of_length_le (by rw [HSL.out]; omega), List.append_nil]
      have HBK := Lib.hid hbk
      clear hst ht hc0 hc1 hcC hbk hfr hl16
      obtain ⟨g0, g1, g2⟩ := gat S6.tail
      have p0 : wr.cell? ⟨pc, 0, none⟩ = some (.int .u16 i0) := S6.cell 3 rfl 0
      have p1 : wr.cell? ⟨pc, 1, none⟩ = some (.int .u16 i1) := S6.cell 3 rfl 1
      go_wp2_with (first
        | (refine wpList_store_sat (off := 0) (n := 20) rfl 28 _ _ rfl (S9.sel [1]) rfl rfl HTL.out (by rw [HSL.out]; omega) Try.sizeS (svals_one t) ?_; intro w10 S10; rw [HBK.out] at S10)
        | (refine wpList_load_part rfl 28 _ rfl (n := 20) rfl (S9.part 0 20) (by rw [List.length_take, List.length_drop, HTL.out]; rfl) Try.underlying28 rfl Try.sizeS ?_; rw [List.drop_zero, List.take_of_length_le (by rw [HTL.out]; omega)])
        | (refine wpList_store_sat (off := 0) (n := 20) rfl 28 _ _ rfl S8 rfl rfl HTL.out (by decide) Try.sizeS (svals_one t) ?_; intro w9 S9; rw [zstore] at S9; have e0 : w9.cell? ⟨w7.heap.size, 1, none⟩ = some (.int .i32 i0) := (S9.cell 0 rfl 1).trans HC0.out; have e1 : w9.cell? ⟨w7.heap.size, 2, none⟩ = some (.int .i32 i1) := (S9.cell 0 rfl 2).trans HC1.out; have q0 : w9.cell? ⟨pc, 0, none⟩ = some (.int .u16 i0) := S9.cell 4 rfl 0; have q1 : w9.cell? ⟨pc, 1, none⟩ = some (.int .u16 i1) := S9.cell 4 rfl 1; have eC : w9.cell? ⟨w7.heap.size, 1 + C, none⟩ = some (.int .i32 k) := (S9.cell 0 rfl (1 + C)).trans HCC.out)
        | (refine wpList_load_part rfl 28 _ rfl (n := 20) rfl (S6.part 0 20) (by rw [List.length_take, List.length_drop, HSL.out]; rfl) Try.underlying28 rfl Try.sizeS ?_; rw [List.drop_zero, List.take_of_length_le (by rw [HSL.out]; omega)])
        | (go_at_call 15; refine (vStep_any (code := dcode C) (n := 6) S6 (fun w' h => Rd.lit (h.block 2 rfl).1) rfl (by unfold maxLen; omega) 100 20 hso i0 i1 (by omega) (by omega)).mono ?_; unfold Stepped; rintro e w7 ⟨rfl, S7⟩; rw [HST.out]; have S8 := S7.alloc [.int .i64 0, .int .i32 0, .int .i32 0, .int .i32 0, .int .i32 0, .int .i32 0, .int .i32 0, .int .i32 0, .int .i32 0, .int .i32 0, .int .i32 0, .int .i32 0, .int .i32 0, .int .i32 0, .int .i32 0, .int .i32 0, .int .i32 0, .int .u32 0, .bool false, .int .i64 0] 28))
      go_roundw
      case rel => exact ⟨k + 1, t, by omega, by go_num, hR2, (S10.sel [1]).tail⟩
      case measure => simp [intOf]; omega
    · have hfr := hR.frame
      have ef : wr.cell? ⟨ps, 0, none⟩ = some (.int .i64 s.frame) := S6.cell 0 rfl 0
      rw [hfr] at ef
      obtain rfl : k = N := by omega
      go_wp2_with (go_at_call 19; refine (vknown_any S6).mono ?_; rintro e w6 ⟨rfl, S7⟩)
      go_ret
      exact ⟨rfl, S7.below⟩
end Go.Proofs.Ytlkmkclohkbjeaa
