/-
  RbLwOfNothing in one text (wip/tools/joint.py)
-/
import Derived.Test.YtjdeeloemhjbhaaRbJ2

section
namespace Go.Proofs.Ytjdeeloemhjbhaa
open Go.RowKit Go.Sep Go.Vm Go.Inp
set_option linter.unusedSimpArgs false

theorem zsv : (svals VS.zero).toArray = #[.int .i64 0, .int .i32 0, .int .i32 0, .int .i32 0, .int .i32 0, .int .i32 0, .int .i32 0, .int .i32 0, .int .i32 0, .int .i32 0, .int .i32 0, .int .i32 0, .int .i32 0, .int .i32 0, .int .i32 0, .int .i32 0, .int .i32 0, .int .u32 0, .bool false, .int .i64 0] := rfl
theorem zeq16 (w : World) : (Op.equalIn 9999 38 (.agg #[.int .i32 0, .int .i32 0, .int .i32 0, .int .i32 0, .int .i32 0, .int .i32 0, .int .i32 0, .int .i32 0, .int .i32 0, .int .i32 0, .int .i32 0, .int .i32 0, .int .i32 0, .int .i32 0, .int .i32 0, .int .i32 0]) (.agg #[.int .i32 0, .int .i32 0, .int .i32 0, .int .i32 0, .int .i32 0, .int .i32 0, .int .i32 0, .int .i32 0, .int .i32 0, .int .i32 0, .int .i32 0, .int .i32 0, .int .i32 0, .int .i32 0, .int .i32 0, .int .i32 0])).run Try.prog w = .ok true w := by kernel_rfl
set_option maxRecDepth 100000 in
set_option maxHeartbeats 6400000 in
theorem RollbackOfNothing_walk {w : World} (f x me : Int) :
    Calls Try.prog 6 #[.int .i64 f, .int .u16 x, .int .i64 me] w fun e w' => e = .returned (.bool true) ∧ Below w.heap.size w w' := by
  have S0 := Sat.start w
  have hz1 := zeq16
  by_cases hm : Seat me
  · have hm2 : (me = 0 ∧ (me != 0) = false ∧ (me == 0) = true) ∨ (me = 1 ∧ (me != 0) = true ∧ (me == 0) = false) := by
      rcases hm with h | h
      · left; rw [h]; exact ⟨rfl, rfl, rfl⟩
      · right; rw [h]; exact ⟨rfl, rfl, rfl⟩
    rcases hm2 with ⟨h1, h2, h3⟩ | ⟨h1, h2, h3⟩
    all_goals
      subst h1
      go_enter Try.func6, Try.ntmps6
      go_wp2_with (first
        | (go_at_call 11; refine (nLoc_any S0 x).mono ?_; rintro e w1 ⟨rfl, S1⟩)
        | (go_at_call 12; refine (nWork_any S1).mono ?_; rintro e w2 ⟨rfl, S2⟩)
        | (go_at_call 9; refine (radder_any S2 5).mono ?_; rintro e w3 ⟨g, rfl, S3⟩)
        | (go_at_call 8; refine (bNew_any (limit := 5) S3 (by omega) hm 1 1).mono ?_; rintro e w4 ⟨s, rfl, S4⟩)
        | (go_at_call 10; refine (nRem_any S4 f x).mono ?_; rintro e w5 ⟨rfl, S5⟩)
        | (go_at_call 13; refine (nNow_any S5).mono ?_; rw [zsv]; rintro e w6 ⟨rfl, S6⟩)
        | (go_at_call 14; refine (nSure_any S6).mono ?_; rw [zsv]; rintro e w7 ⟨rfl, S7⟩)
        | (go_at_call 15; refine (nNeeds_any S7).mono ?_; rintro e w8 ⟨rfl, S8⟩)
        | (go_at_call 7; refine (lknown_any S8).mono ?_; rintro e w9 ⟨rfl, S9⟩))
      go_ret
      exact ⟨rfl, S9.below⟩
  · have h1 : (me != 0) = true := by simp only [bne_iff_ne, ne_eq]; exact fun h => hm (.inl h)
    have h2 : (me != 1) = true := by simp only [bne_iff_ne, ne_eq]; exact fun h => hm (.inr h)
    have h3 : (me == 0) = false := by simp only [beq_eq_false_iff_ne, ne_eq]; exact fun h => hm (.inl h)
    have h4 : (me == 1) = false := by simp only [beq_eq_false_iff_ne, ne_eq]; exact fun h => hm (.inr h)
    go_enter Try.func6, Try.ntmps6
    go_wp2_with (first
      | (go_at_call 11; refine (nLoc_any S0 x).mono ?_; rintro e w1 ⟨rfl, S1⟩)
      | (go_at_call 12; refine (nWork_any S1).mono ?_; rintro e w2 ⟨rfl, S2⟩)
      | (go_at_call 9; refine (radder_any S2 5).mono ?_; rintro e w3 ⟨g, rfl, S3⟩)
      | (go_at_call 8; refine (rbNew_seat S3 (a := some ⟨g, 0, none⟩) (n := 8) (c := 8) (code := bcode) (fun w' h => Rd.lit (h.block 0 rfl).1) rfl (by unfold maxLen; omega) 5 20 1 me (bcheck (by omega)) hm).mono ?_; rintro e w4 ⟨rfl, S4⟩)
      | (go_at_call 10; refine (nRem_any S4 f x).mono ?_; rintro e w5 ⟨rfl, S5⟩)
      | (go_at_call 13; refine (nNow_any S5).mono ?_; rw [zsv]; rintro e w6 ⟨rfl, S6⟩)
      | (go_at_call 14; refine (nSure_any S6).mono ?_; rw [zsv]; rintro e w7 ⟨rfl, S7⟩)
      | (go_at_call 15; refine (nNeeds_any S7).mono ?_; rintro e w8 ⟨rfl, S8⟩)
      | (go_at_call 7; refine (lknown_any S8).mono ?_; rintro e w9 ⟨rfl, S9⟩))
    go_ret
    exact ⟨rfl, S9.below⟩
end Go.Proofs.Ytjdeeloemhjbhaa
end
