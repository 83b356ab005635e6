/-
  inputs: a nil Queue knows nothing; the law InputsOfNothing, walked.
-/
import Derived.Test.YtbjhhkhhfjmnjaaInp6
namespace Go.Proofs.Ytbjhhkhhfjmnjaa
open Go.RowKit Go.Sep Go.Inp

set_option maxRecDepth 100000 in
theorem put_nil (j fr x : Int) (w : World) :
    Calls Try.prog 9 #[.pointer none, .int .i64 j, .int .i64 fr, .int .u16 x] w fun e w' => e = .returned (.int .i64 1) ∧ w = w' := by
  go_enter Try.func9, Try.ntmps9
  go_wp2_with (go_at_call 21; refine (of_nil _ _).mono ?_; rintro e w1 ⟨rfl, rfl⟩)
  go_ret
  exact ⟨rfl, rfl⟩
set_option maxRecDepth 100000 in
theorem get_nil (j fr : Int) (w : World) :
    Calls Try.prog 10 #[.pointer none, .int .i64 j, .int .i64 fr] w fun e w' => e = .returned (.tuple #[.int .u16 0, .bool false]) ∧ w = w' := by
  go_enter Try.func10, Try.ntmps10
  go_wp2_with (go_at_call 21; refine (of_nil _ _).mono ?_; rintro e w1 ⟨rfl, rfl⟩)
  go_ret2
  exact ⟨rfl, rfl⟩
set_option maxRecDepth 100000 in
theorem known_nil (j : Int) (w : World) :
    Calls Try.prog 14 #[.pointer none, .int .i64 j] w fun e w' => e = .returned (.int .i64 0) ∧ w = w' := by
  go_enter Try.func14, Try.ntmps14
  go_wp2_with (go_at_call 21; refine (of_nil _ _).mono ?_; rintro e w1 ⟨rfl, rfl⟩)
  go_ret
  exact ⟨rfl, rfl⟩
set_option maxRecDepth 100000 in
theorem both_nil (w : World) :
    Calls Try.prog 16 #[.pointer none] w fun e w' => e = .returned (.int .i64 0) ∧ w = w' := by
  go_enter Try.func16, Try.ntmps16
  go_wp2_with (go_at_call 14; refine (known_nil _ _).mono ?_; rintro e w1 ⟨rfl, rfl⟩)
  go_ret
  exact ⟨rfl, rfl⟩
set_option maxRecDepth 100000 in
theorem pairs_nil (w : World) :
    Calls Try.prog 19 #[.pointer none] w fun e w' => e = .returned (.slice none 0 0) ∧ w = w' := by
  go_enter Try.func19, Try.ntmps19
  go_wp2_with (go_at_call 16; refine (both_nil _).mono ?_; rintro e w1 ⟨rfl, rfl⟩)
  go_loopw [3, 7] (fun v i wr => v = .slice none 0 0 ∧ i = .int .i64 0 ∧ w = wr) (fun _ _ _ => 0)
  case atStart => exact ⟨rfl, rfl, rfl⟩
  case round =>
    obtain ⟨rfl, rfl, rfl⟩ := hrel
    go_wp2
    go_ret
    exact ⟨rfl, rfl⟩

set_option maxRecDepth 100000 in
theorem InputsOfNothing_walk {w : World} {c0 : List Value} {x0 : Int × Int × Int} (r0 : (Kd.pair (Kd.int .i64) (Kd.pair (Kd.int .i64) (Kd.int .u16))).R w c0 x0) :
    Calls Try.prog 6 #[.agg c0.toArray] w fun e w' => e = .returned (.bool true) ∧ Below w.heap.size w w' := by
  obtain ⟨j, fr, x⟩ := x0
  obtain ⟨_, _, rfl, ⟨rfl, _⟩, _, _, rfl, ⟨rfl, _⟩, ⟨rfl, _⟩⟩ := r0
  have S0 := (Sat.start w).alloc [.int .i64 j, .int .i64 fr, .int .u16 x] 39
  have k0 := S0.cell 0 rfl 0
  have k1 := S0.cell 0 rfl 1
  have k2 := S0.cell 0 rfl 2
  simp at k0 k1 k2
  go_enter Try.func6, Try.ntmps6
  go_wp2_with (first
    | (go_at_call 7; refine (known12_any S0).mono ?_; rintro e w1 ⟨rfl, S1⟩)
    | (go_at_call 8; refine (new_bad _ (by omega)).mono ?_; rintro e w1 ⟨rfl, rfl⟩)
    | (go_at_call 9; refine (put_nil _ _ _ _).mono ?_; rintro e w1 ⟨rfl, rfl⟩)
    | (go_at_call 10; refine (get_nil _ _ _).mono ?_; rintro e w1 ⟨rfl, rfl⟩)
    | (go_at_call 14; refine (known_nil _ _).mono ?_; rintro e w1 ⟨rfl, rfl⟩)
    | (go_at_call 16; refine (both_nil _).mono ?_; rintro e w1 ⟨rfl, rfl⟩)
    | (go_at_call 19; refine (pairs_nil _).mono ?_; rintro e w1 ⟨rfl, rfl⟩))
  go_ret
  exact ⟨rfl, S1.below⟩
end Go.Proofs.Ytbjhhkhhfjmnjaa
