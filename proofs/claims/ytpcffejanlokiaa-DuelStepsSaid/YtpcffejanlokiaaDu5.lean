/-
  duel: the laws' own functions: adder, heavy, known.
-/
import Derived.Test.YtpcffejanlokiaaDu4
namespace Go.Proofs.Ytpcffejanlokiaa
open Go.RowKit Go.Sep Go.Vm
set_option linter.unusedSimpArgs false

def acode : List (Int × Int) := [(2, 0), (16, 0), (4, 0), (3, 0)]

set_option maxRecDepth 100000 in
set_option maxHeartbeats 1600000 in
theorem adder_any {W0 w : World} {L : List Asn} (S : Sat W0 w L) (limit : Int) :
    Calls Try.prog 16 #[.int .i64 limit] w fun e w' => ∃ g, e = .returned (.agg #[.slice (some ⟨g, 0, none⟩) 4 4, .int .i64 limit, .int .i64 9]) ∧ Sat W0 w' (blk g (insv acode) 68 :: L) := by
  have S1 := (S.alloc [.slice (some ⟨w.heap.size + 1, 0, none⟩) 4 4, .int .i64 limit, .int .i64 9] 24).alloc (insv acode) 68
  simp only [World.size_alloc] at S1
  go_enter Try.func16, Try.ntmps16
  go_wp2_with fail
  exact bodyPost_ret (results_cell_sat rfl _ (S1.sel [1]) rfl Try.underlying24 rfl (by kernel_rfl)) rfl ⟨_, rfl, (S1.sel [1]).tail⟩

def kd : VS := ⟨2, [2, 0, 0, 0, 0, 0, 0, 0, 0, 0, 0, 0, 0, 0, 0, 0], 1, true, 0⟩
theorem kplay : playP acode 2 9 1 [(1, 0), (1, 0), (9, 9)] = (kd, 0) := by decide +kernel
theorem kres : resultP kd 2 = (0, 2, true) := rfl
theorem kd_ok : kd.Ok := by
  refine ⟨rfl, ?_, ?_, ?_, ?_⟩ <;> decide +kernel

set_option maxRecDepth 100000 in
set_option maxHeartbeats 3200000 in
theorem dknown_any {W0 w : World} {L : List Asn} (S : Sat W0 w L) :
    Calls Try.prog 13 #[] w fun e w' => e = .returned (.bool true) ∧ Sat W0 w' L := by
  go_enter Try.func13, Try.ntmps13
  go_wp2_with (first
    | (go_at_call 16; refine (adder_any S 2).mono ?_; rintro e w2 ⟨g, rfl, S2⟩; have S3 := S2.alloc (pairsv [(1, 0), (1, 0), (9, 9)]) 39)
    | (go_at_call 11; go_loud (refine (play_any (n := 4) (m := 3) (code := acode) (ps := [(1, 0), (1, 0), (9, 9)]) S3 (fun w' h => Rd.lit (h.block 1 rfl).1) rfl (by unfold maxLen; omega) 2 9 1 (by omega) (fun w' h => Rd.lit (h.block 0 rfl).1) rfl (by omega) (by decide)).mono ?_); unfold Stepped; rw [kplay]; rintro e w4 ⟨rfl, S4⟩; have S5 := S4.alloc [.int .i64 0, .int .i32 0, .int .i32 0, .int .i32 0, .int .i32 0, .int .i32 0, .int .i32 0, .int .i32 0, .int .i32 0, .int .i32 0, .int .i32 0, .int .i32 0, .int .i32 0, .int .i32 0, .int .i32 0, .int .i32 0, .int .i32 0, .int .u32 0, .bool false, .int .i64 0] 31)
    | (refine wpList_store_sat (off := 0) (n := 20) rfl 31 _ _ rfl S5 rfl rfl (by rfl) (by decide) Try.sizeS (svals_one kd) ?_; intro w6 S6; rw [zstore] at S6))
  have S6d := S6.drew
  have HKL : Hid ((svals kd).length = 20) := rfl
  refine wp_region_drawn (N := 10) (LN := #[false, false, false, false, false, false, false, false, false, false]) (by kernel_rfl) (by kernel_rfl) (by kernel_rfl) ?_
  refine wpAny_held (fun w' => ∀ j, j < 20 → w'.cell? ⟨w4.heap.size, 0 + j, none⟩ = (svals kd)[j]?) (Sat.whole S6d 20) (fun hHeld => ?_)
  refine wpAnyH_tk (i := 0) (LN := #[true, false, false, false, false, false, false, false, false, false]) rfl (by kernel_rfl) (by kernel_rfl) (by kernel_rfl) (fun _ _ _ h => h) (by kernel_rfl) (by rfl) (by assumption) (fun w h => run_load_part 31 _ rfl (g := w4.heap.size) (off := 0) (n := 20) rfl (h) HKL.out Try.underlying31 rfl (by kernel_rfl)) ?_
  try simp only [Act.put, List.getElem_toArray, List.getElem_cons_zero, List.getElem_cons_succ, List.setIfInBounds_toArray, List.set_cons_zero, List.set_cons_succ]
  refine wpAnyH_one (i := 1) (LN := #[true, true, false, false, false, false, false, false, false, false]) (by kernel_rfl) rfl (by kernel_rfl) ?_
  intro K hK
  go_simp
  go_at_call 16
  refine (adder_any S6d 2).mono ?_
  rintro e w7 ⟨g2, rfl, S7⟩
  go_wp2_with fail
  refine hK.out _ _ (Sat.whole S7.tail 20) ?_
  clear hK K hHeld
  intro hHeld
  try simp only [Act.put, List.getElem_toArray, List.getElem_cons_zero, List.getElem_cons_succ, List.setIfInBounds_toArray, List.set_cons_zero, List.set_cons_succ]
  refine wpAnyH_one (i := 2) (LN := #[true, true, true, false, false, false, false, false, false, false]) (by kernel_rfl) rfl (by kernel_rfl) ?_
  intro K hK
  go_simp
  go_at_call 14
  refine (result_any S7 kd_ok _ _ _ 2 9).mono ?_
  unfold ResPost
  rw [kres]
  rintro e w8 ⟨rfl, S8⟩
  go_wp2_with fail
  refine hK.out _ _ (Sat.whole S8.tail 20) ?_
  clear hK K hHeld
  intro hHeld
  try simp only [Act.put, List.getElem_toArray, List.getElem_cons_zero, List.getElem_cons_succ, List.setIfInBounds_toArray, List.set_cons_zero, List.set_cons_succ]
  refine wpAnyH_tk (i := 3) (v := ?_) (LN := #[true, true, true, true, false, false, false, false, false, false]) rfl (by kernel_rfl) (by kernel_rfl) (by kernel_rfl) (fun _ _ _ h => h) (by kernel_rfl) (by rfl) (by assumption) ?_ ?_
  rotate_left
  · intro w hSw; (try dsimp only at hSw); first | (go_simp; done) | (go_simp; with_reducible rfl)
  try simp only [Act.put, List.getElem_toArray, List.getElem_cons_zero, List.getElem_cons_succ, List.setIfInBounds_toArray, List.set_cons_zero, List.set_cons_succ]
  refine wpAnyH_tk (i := 4) (v := ?_) (LN := #[true, true, true, true, true, false, false, false, false, false]) rfl (by kernel_rfl) (by kernel_rfl) (by kernel_rfl) (fun _ _ _ h => h) (by kernel_rfl) (by rfl) (by assumption) ?_ ?_
  rotate_left
  · intro w hSw; (try dsimp only at hSw); first | (go_simp; done) | (go_simp; with_reducible rfl)
  try simp only [Act.put, List.getElem_toArray, List.getElem_cons_zero, List.getElem_cons_succ, List.setIfInBounds_toArray, List.set_cons_zero, List.set_cons_succ]
  refine wpAnyH_tk (i := 5) (v := ?_) (LN := #[true, true, true, true, true, true, false, false, false, false]) rfl (by kernel_rfl) (by kernel_rfl) (by kernel_rfl) (fun _ _ _ h => h) (by kernel_rfl) (by rfl) (by assumption) ?_ ?_
  rotate_left
  · intro w hSw; (try dsimp only at hSw); first | (go_simp; done) | (go_simp; with_reducible rfl)
  try simp only [Act.put, List.getElem_toArray, List.getElem_cons_zero, List.getElem_cons_succ, List.setIfInBounds_toArray, List.set_cons_zero, List.set_cons_succ]
  refine wpAnyH_tk (i := 6) (v := ?_) (LN := #[true, true, true, true, true, true, true, false, false, false]) rfl (by kernel_rfl) (by kernel_rfl) (by kernel_rfl) (fun _ _ _ h => h) (by kernel_rfl) (by rfl) (by assumption) ?_ ?_
  rotate_left
  · intro w hSw; (try dsimp only at hSw); first | (go_simp; done) | (go_simp; with_reducible rfl)
  try simp only [Act.put, List.getElem_toArray, List.getElem_cons_zero, List.getElem_cons_succ, List.setIfInBounds_toArray, List.set_cons_zero, List.set_cons_succ]
  refine wpAnyH_tk (i := 7) (v := ?_) (LN := #[true, true, true, true, true, true, true, true, false, false]) rfl (by kernel_rfl) (by kernel_rfl) (by kernel_rfl) (fun _ _ _ h => h) (by kernel_rfl) (by rfl) (by assumption) ?_ ?_
  rotate_left
  · intro w hSw; (try dsimp only at hSw); first | (go_simp; done) | (go_simp; with_reducible rfl)
  try simp only [Act.put, List.getElem_toArray, List.getElem_cons_zero, List.getElem_cons_succ, List.setIfInBounds_toArray, List.set_cons_zero, List.set_cons_succ]
  refine wpAnyH_tk (i := 8) (v := ?_) (LN := #[true, true, true, true, true, true, true, true, true, false]) rfl (by kernel_rfl) (by kernel_rfl) (by kernel_rfl) (fun _ _ _ h => h) (by kernel_rfl) (by rfl) (by assumption) ?_ ?_
  rotate_left
  · intro w hSw; (try dsimp only at hSw); first | (go_simp; done) | (go_simp; with_reducible rfl)
  try simp only [Act.put, List.getElem_toArray, List.getElem_cons_zero, List.getElem_cons_succ, List.setIfInBounds_toArray, List.set_cons_zero, List.set_cons_succ]
  refine wpAnyH_tk (i := 9) (v := ?_) (LN := #[true, true, true, true, true, true, true, true, true, true]) rfl (by kernel_rfl) (by kernel_rfl) (by kernel_rfl) (fun _ _ _ h => h) (by kernel_rfl) (by rfl) (by assumption) ?_ ?_
  rotate_left
  · intro w hSw; (try dsimp only at hSw); first | (go_simp; done) | (go_simp; with_reducible rfl)
  try simp only [Act.put, List.getElem_toArray, List.getElem_cons_zero, List.getElem_cons_succ, List.setIfInBounds_toArray, List.set_cons_zero, List.set_cons_succ]
  refine ⟨by kernel_rfl, ?_⟩
  try simp only [Act.put, List.getElem_toArray, List.getElem_cons_zero, List.getElem_cons_succ, List.setIfInBounds_toArray, List.set_cons_zero, List.set_cons_succ]
  have k1 : w8.cell? ⟨w4.heap.size, 1, none⟩ = some (.int .i32 2) := S8.cell 1 rfl 1
  have k18 : w8.cell? ⟨w4.heap.size, 18, none⟩ = some (.bool true) := S8.cell 1 rfl 18
  go_wp2_with fail
  go_ret
  exact ⟨rfl, S8.tail.tail.tail.tail⟩
end Go.Proofs.Ytpcffejanlokiaa
