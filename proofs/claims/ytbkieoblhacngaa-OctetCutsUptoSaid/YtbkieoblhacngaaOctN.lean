/-
  octet: a nil Writer lays nothing, a nil Reader gives noughts.
-/
import Derived.Test.YtbkieoblhacngaaOct5
namespace Go.Proofs.Ytbkieoblhacngaa
open Go.RowKit Go.Sep Go.Oct

theorem wByte_none {W0 w : World} {L : List Asn} (S : Sat W0 w L) (v : Int) :
    Calls Try.prog 30 #[.pointer none, .int .u8 v] w fun e w' => e = .returned (.tuple #[]) ∧ Sat W0 w' L := by
  go_enter Try.func30, Try.ntmps30
  go_wp2_with (go_at_call 35; refine (put_none _ _).mono ?_; rintro e w' ⟨rfl, rfl⟩)
  go_end0
  exact ⟨rfl, S.allocAny _⟩
theorem wTwo_none {W0 w : World} {L : List Asn} (S : Sat W0 w L) (v : Int) (h0 : 0 ≤ v) (h1 : v < 65536) :
    Calls Try.prog 31 #[.pointer none, .int .u16 v] w fun e w' => e = .returned (.tuple #[]) ∧ Sat W0 w' L := by
  go_enter Try.func31, Try.ntmps31
  go_wp2_with (go_at_call 35; refine (put_none _ _).mono ?_; rintro e w' ⟨rfl, rfl⟩)
  go_end0
  exact ⟨rfl, S.allocAny _⟩
theorem wFour_none {W0 w : World} {L : List Asn} (S : Sat W0 w L) (v : Int) (h0 : 0 ≤ v) (h1 : v < 4294967296) :
    Calls Try.prog 32 #[.pointer none, .int .u32 v] w fun e w' => e = .returned (.tuple #[]) ∧ Sat W0 w' L := by
  go_enter Try.func32, Try.ntmps32
  go_wp2_with (go_at_call 35; refine (put_none _ _).mono ?_; rintro e w' ⟨rfl, rfl⟩)
  go_end0
  exact ⟨rfl, S.allocAny _⟩
theorem wHash_none {W0 w : World} {L : List Asn} (S : Sat W0 w L) (xs : List Int) :
    Calls Try.prog 33 #[.pointer none, .agg (bv xs).toArray] w fun e w' => e = .returned (.tuple #[]) ∧ Sat W0 w' L := by
  go_enter Try.func33, Try.ntmps33
  go_wp2_with (go_at_call 35; refine (put_none _ _).mono ?_; rintro e w' ⟨rfl, rfl⟩)
  go_end0
  exact ⟨rfl, S.allocAny _⟩

set_option maxRecDepth 100000 in
theorem wNum_none {W0 w : World} {L : List Asn} (S : Sat W0 w L) (v : Int) (h0 : -9223372036854775808 ≤ v) (h1 : v < 9223372036854775808) :
    Calls Try.prog 14 #[.pointer none, .int .i64 v] w fun e w' => e = .returned (.tuple #[]) ∧ Sat W0 w' L := by
  by_cases hv : 0 ≤ v
  all_goals
    go_enter Try.func14, Try.ntmps14
    go_wp2_with fail
    first | rw [zig_pos hv (by omega)] | rw [zig_neg (by omega) (by omega)]
    go_loopw [4] (fun u wr => ∃ x, u = .int .u64 x ∧ Sat W0 wr L ∧ 0 ≤ x ∧ x < 18446744073709551616) (fun u _ => (intOf u).toNat)
    case atStart => exact ⟨zig v, rfl, S, zig_lo v, zig_hi h0 h1⟩
    case round =>
      obtain ⟨x, rfl, S', hx0, hx1⟩ := hrel
      by_cases h128 : 128 ≤ x
      · go_wp2_with (go_at_call 35; refine (put_none _ _).mono ?_; rintro e w' ⟨rfl, rfl⟩)
        go_roundw
        case rel => exact ⟨x / 128, rfl, S'.allocAny _, by omega, by omega⟩
        case measure => simp [intOf]; omega
      · go_wp2_with (go_at_call 35; refine (put_none _ _).mono ?_; rintro e w' ⟨rfl, rfl⟩)
        go_end0
        exact ⟨rfl, S'.allocAny _⟩

theorem wBytes_none {W0 w : World} {L : List Asn} (S : Sat W0 w L) (lo : Option Addr) (m c : Nat) (hm : m ≤ 140737488355328) :
    Calls Try.prog 22 #[.pointer none, .slice lo m c] w fun e w' => e = .returned (.tuple #[]) ∧ Sat W0 w' L := by
  go_enter Try.func22, Try.ntmps22
  go_wp2_with (first | (go_at_call 14; refine (wNum_none S m (by omega) (by omega)).mono ?_; rintro e w1 ⟨rfl, S2⟩) | (go_at_call 35; refine (put_none _ _).mono ?_; rintro e w2 ⟨rfl, rfl⟩))
  go_end0
  exact ⟨rfl, S2⟩

set_option maxRecDepth 100000 in
theorem rByte_none (w : World) : Calls Try.prog 26 #[.pointer none] w fun e w' => e = .returned (.int .u8 0) ∧ w = w' := by
  go_enter Try.func26, Try.ntmps26
  go_wp2_with (go_at_call 42; refine (low_none _ _).mono ?_; rintro e w1 ⟨rfl, rfl⟩)
  go_ret
  exact ⟨rfl, rfl⟩
set_option maxRecDepth 100000 in
theorem rTwo_none (w : World) : Calls Try.prog 27 #[.pointer none] w fun e w' => e = .returned (.int .u16 0) ∧ w = w' := by
  go_enter Try.func27, Try.ntmps27
  go_wp2_with (go_at_call 42; refine (low_none _ _).mono ?_; rintro e w1 ⟨rfl, rfl⟩)
  go_ret
  exact ⟨rfl, rfl⟩
set_option maxRecDepth 100000 in
theorem rFour_none (w : World) : Calls Try.prog 28 #[.pointer none] w fun e w' => e = .returned (.int .u32 0) ∧ w = w' := by
  go_enter Try.func28, Try.ntmps28
  go_wp2_with (go_at_call 42; refine (low_none _ _).mono ?_; rintro e w1 ⟨rfl, rfl⟩)
  go_ret
  exact ⟨rfl, rfl⟩
set_option maxRecDepth 100000 in
theorem rNum_none (w : World) : Calls Try.prog 19 #[.pointer none] w fun e w' => e = .returned (.int .i64 0) ∧ w = w' := by
  go_enter Try.func19, Try.ntmps19
  go_wp2_with fail
  refine wp_loop_once ?_
  go_wp2_with (go_at_call 37; refine (take_none _ _).mono ?_; rintro e w1 ⟨rfl, rfl⟩)
  go_ret
  exact ⟨rfl, rfl⟩
set_option maxRecDepth 100000 in
theorem left_none (w : World) : Calls Try.prog 20 #[.pointer none] w fun e w' => e = .returned (.int .i64 0) ∧ w = w' := by
  go_enter Try.func20, Try.ntmps20
  go_wp2_with fail
  go_ret
  exact ⟨rfl, rfl⟩
set_option maxRecDepth 100000 in
theorem end_none (w : World) : Calls Try.prog 24 #[.pointer none] w fun e w' => e = .returned (.int .i64 2) ∧ w = w' := by
  go_enter Try.func24, Try.ntmps24
  go_wp2_with fail
  go_ret
  exact ⟨rfl, rfl⟩
set_option maxRecDepth 100000 in
theorem rBytes_none (w : World) : Calls Try.prog 23 #[.pointer none] w fun e w' => e = .returned (.slice none 0 0) ∧ w = w' := by
  go_enter Try.func23, Try.ntmps23
  go_wp2_with (first
    | (go_at_call 19; refine (rNum_none _).mono ?_; rintro e w1 ⟨rfl, rfl⟩)
    | (go_at_call 37; refine (take_none _ _).mono ?_; rintro e w1 ⟨rfl, rfl⟩)
    | (go_at_call 36; refine (clone_nil _).mono ?_; rintro e w1 ⟨rfl, rfl⟩))
  go_ret
  exact ⟨rfl, rfl⟩
set_option maxRecDepth 100000 in
theorem rHash_none {W0 w : World} {L : List Asn} (S : Sat W0 w L) :
    Calls Try.prog 29 #[.pointer none] w fun e w' => e = .returned (.agg (bv zeros32).toArray) ∧ Sat W0 w' L := by
  have S1 : Sat W0 (w.alloc (.cells (bv zeros32).toArray 42)) (blk w.heap.size (bv zeros32) 42 :: L) := S.alloc (bv zeros32) _
  go_enter Try.func29, Try.ntmps29
  go_wp2_with fail
  go_region_law (first | (refine step_copy_sat (dLen := 32) (dCap := 32) (o := 0) rfl _ _ _ _ 5 rfl Try.underlying22 Try.sizeB S1.drew rfl rfl (news := []) (Rd.nil _ _) (by rfl) (by simp [zeros32_length]) (fun u hu => by simp at hu) ?_; intro w2 S3) | (go_simp; go_at_call 37; refine (take_none _ _).mono ?_; rintro e w1 ⟨rfl, rfl⟩))
  rw [List.take_zero, List.nil_append, List.length_nil, List.nil_append, Nat.add_zero, List.drop_zero] at S3
  have hl2 : (bv zeros32).length = 32 := zeros32_length
  have h1 := bv_one zeros32
  clear S1
  generalize hz : bv zeros32 = hs at S3 hl2 h1
  have HZ := Lib.hid hz
  clear hz
  go_wp2_with (first
    | (refine wpList_load_part rfl 42 _ rfl (n := 32) rfl (S3.part 0 32) (by simp [hl2]) Try.underlying42 rfl Try.sizeH ?_; rw [List.drop_zero, List.take_of_length_le (by omega)])
    | (refine wpList_store_sat rfl 42 _ _ rfl S3 rfl rfl hl2 (by omega) Try.sizeH h1 ?_; intro w3 S4))
  rw [List.take_zero, List.nil_append, Nat.zero_add, List.drop_eq_nil_of_le (by omega), List.append_nil] at S4
  exact bodyPost_ret (results_cell_sat rfl _ S4 rfl Try.underlying42 rfl (by rw [hl2]; exact Try.sizeH)) rfl ⟨by rw [HZ.out], S4.tail⟩
end Go.Proofs.Ytbkieoblhacngaa
