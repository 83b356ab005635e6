/-
  The law VmSwaps, walked.
-/
import Derived.Test.YtlkmkclohkbjeaaVmK
import Derived.Test.YtlkmkclohkbjeaaVmF
namespace Go.Proofs.Ytlkmkclohkbjeaa
open Go.RowKit Go.Sep Go.Vm

set_option maxRecDepth 100000 in
set_option maxHeartbeats 3200000 in
theorem VmSwaps_walk {w : World} (a b : Int) (ha : -2147483648 ≤ a ∧ a ≤ 2147483647) (hb : -2147483648 ≤ b ∧ b ≤ 2147483647) :
    Calls Try.prog 12 #[.int .i32 a, .int .i32 b] w fun e w' => e = .returned (.bool true) ∧ Below w.heap.size w w' := by
  have S1 : Sat w (w.alloc (.cells #[.int .i64 1, .int .i64 a, .int .i64 1, .int .i64 b, .int .i64 14, .int .i64 0, .int .i64 3, .int .i64 2, .int .i64 13, .int .i64 0, .int .i64 3, .int .i64 3, .int .i64 12, .int .i64 0, .int .i64 3, .int .i64 4, .int .i64 1, .int .i64 9, .int .i64 15, .int .i64 0] 45)) (blk w.heap.size (insv (wcode a b)) 45 :: []) := (Sat.start w).alloc (insv (wcode a b)) _
  obtain ⟨r, hr⟩ : ∃ r : VS, r = ⟨1, [0, 0, a, b, truth (decide (b = 0)), 0, 0, 0, 0, 0, 0, 0, 0, 0, 0, 0], 1, false, 0⟩ := ⟨_, rfl⟩
  have hw := wstep ha hb
  rw [← hr] at hw
  have HW := Lib.hid hw
  have HC3 : Hid ((svals r)[3]? = some (.int .i32 a)) := by show _ = _; rw [hr]; rfl
  have HC4 : Hid ((svals r)[4]? = some (.int .i32 b)) := by show _ = _; rw [hr]; rfl
  have HC5' : (svals r)[5]? = some (.int .i32 (truth (decide (b = 0)))) := by rw [hr]; rfl
  have HL20 : Hid ((svals r).length = 20) := by show _ = _; rw [hr]; rfl
  clear hw hr
  by_cases h0 : b = 0
  · have hz : (b == 0) = true := by simpa using h0
    rw [decide_eq_true h0] at HC5'
    have HC5 : Hid ((svals r)[5]? = some (.int .i32 65536)) := HC5'
    clear HC5' h0
    go_enter Try.func12, Try.ntmps12
    go_wp2_with (first
      | (refine wpList_store_sat (off := 0) (n := 20) rfl 28 _ _ rfl S4 rfl rfl HL20.out (by decide) Try.sizeS (svals_one r) ?_; intro w5 S5; rw [zstore] at S5; have e3 : w5.cell? ⟨w3.heap.size, 3, none⟩ = some (.int .i32 a) := (S5.cell 0 rfl 3).trans HC3.out; have e4 : w5.cell? ⟨w3.heap.size, 4, none⟩ = some (.int .i32 b) := (S5.cell 0 rfl 4).trans HC4.out; have e5 : w5.cell? ⟨w3.heap.size, 5, none⟩ = some (.int .i32 65536) := (S5.cell 0 rfl 5).trans HC5.out)
      | (go_at_call 15; refine (vStep_any (code := wcode a b) (n := 10) S2 (fun w' h => Rd.lit (h.block 0 rfl).1) rfl (by unfold maxLen; omega) 5 20 (start_ok (x := 1) (by omega)) 0 0 (by omega) (by omega)).mono ?_; unfold Stepped; rintro e w3 ⟨rfl, S3⟩; rw [HW.out]; have S4 := S3.alloc [.int .i64 0, .int .i32 0, .int .i32 0, .int .i32 0, .int .i32 0, .int .i32 0, .int .i32 0, .int .i32 0, .int .i32 0, .int .i32 0, .int .i32 0, .int .i32 0, .int .i32 0, .int .i32 0, .int .i32 0, .int .i32 0, .int .i32 0, .int .u32 0, .bool false, .int .i64 0] 28)
      | (go_at_call 20; refine (vStart_any S1 1 (by omega)).mono ?_; unfold StartsAt; rintro e w2 ⟨rfl, S2⟩)
      | (go_at_call 19; refine (vknown_any S5).mono ?_; rintro e w6 ⟨rfl, S6⟩))
    go_ret
    exact ⟨rfl, S6.below⟩
  · have hz : (b == 0) = false := by simpa using h0
    rw [decide_eq_false h0] at HC5'
    have HC5 : Hid ((svals r)[5]? = some (.int .i32 0)) := HC5'
    clear HC5' h0
    go_enter Try.func12, Try.ntmps12
    go_wp2_with (first
      | (refine wpList_store_sat (off := 0) (n := 20) rfl 28 _ _ rfl S4 rfl rfl HL20.out (by decide) Try.sizeS (svals_one r) ?_; intro w5 S5; rw [zstore] at S5; have e3 : w5.cell? ⟨w3.heap.size, 3, none⟩ = some (.int .i32 a) := (S5.cell 0 rfl 3).trans HC3.out; have e4 : w5.cell? ⟨w3.heap.size, 4, none⟩ = some (.int .i32 b) := (S5.cell 0 rfl 4).trans HC4.out; have e5 : w5.cell? ⟨w3.heap.size, 5, none⟩ = some (.int .i32 0) := (S5.cell 0 rfl 5).trans HC5.out)
      | (go_at_call 15; refine (vStep_any (code := wcode a b) (n := 10) S2 (fun w' h => Rd.lit (h.block 0 rfl).1) rfl (by unfold maxLen; omega) 5 20 (start_ok (x := 1) (by omega)) 0 0 (by omega) (by omega)).mono ?_; unfold Stepped; rintro e w3 ⟨rfl, S3⟩; rw [HW.out]; have S4 := S3.alloc [.int .i64 0, .int .i32 0, .int .i32 0, .int .i32 0, .int .i32 0, .int .i32 0, .int .i32 0, .int .i32 0, .int .i32 0, .int .i32 0, .int .i32 0, .int .i32 0, .int .i32 0, .int .i32 0, .int .i32 0, .int .i32 0, .int .i32 0, .int .u32 0, .bool false, .int .i64 0] 28)
      | (go_at_call 20; refine (vStart_any S1 1 (by omega)).mono ?_; unfold StartsAt; rintro e w2 ⟨rfl, S2⟩)
      | (go_at_call 19; refine (vknown_any S5).mono ?_; rintro e w6 ⟨rfl, S6⟩))
    go_ret
    exact ⟨rfl, S6.below⟩
end Go.Proofs.Ytlkmkclohkbjeaa
