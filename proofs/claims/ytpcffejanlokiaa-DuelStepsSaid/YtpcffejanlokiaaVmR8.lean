/-
  Chapter 8's document: numbers with digits behind the point.
-/
import Derived.Test.YtpcffejanlokiaaVm3
namespace Go.Proofs.Ytpcffejanlokiaa
open Go.RowKit Go.Sep Go.Vm

set_option maxRecDepth 100000 in
theorem r8held_any (w : World) (v : Int) (h : -9223372036854775808 ≤ v ∧ v < 9223372036854775808) : Calls Try.prog 69 #[.int .i64 v] w fun e w' => e = .returned (.int .i32 (held v)) ∧ w = w' := by
  go_enter Try.func69, Try.ntmps69
  go_wp2_with fail
  all_goals
    go_ret
    exact ⟨ret_int (by unfold held; omega), rfl⟩

set_option maxRecDepth 100000 in
theorem r8add_any (w : World) (a b : Int) (ha : -2147483648 ≤ a ∧ a ≤ 2147483647) (hb : -2147483648 ≤ b ∧ b ≤ 2147483647) : Calls Try.prog 40 #[.int .i32 a, .int .i32 b] w fun e w' => e = .returned (.int .i32 (fadd a b)) ∧ w = w' := by
  go_enter Try.func40, Try.ntmps40
  go_wp2_with (go_at_call 69; refine (r8held_any _ (a + b) (by omega)).mono ?_; rintro e w1 ⟨rfl, rfl⟩)
  go_ret
  exact ⟨rfl, rfl⟩

set_option maxRecDepth 100000 in
theorem r8sub_any (w : World) (a b : Int) (ha : -2147483648 ≤ a ∧ a ≤ 2147483647) (hb : -2147483648 ≤ b ∧ b ≤ 2147483647) : Calls Try.prog 41 #[.int .i32 a, .int .i32 b] w fun e w' => e = .returned (.int .i32 (fsub a b)) ∧ w = w' := by
  go_enter Try.func41, Try.ntmps41
  go_wp2_with (go_at_call 69; refine (r8held_any _ (a - b) (by omega)).mono ?_; rintro e w1 ⟨rfl, rfl⟩)
  go_ret
  exact ⟨rfl, rfl⟩

set_option maxRecDepth 100000 in
theorem r8mul_any (w : World) (a b : Int) (ha : -2147483648 ≤ a ∧ a ≤ 2147483647) (hb : -2147483648 ≤ b ∧ b ≤ 2147483647) : Calls Try.prog 42 #[.int .i32 a, .int .i32 b] w fun e w' => e = .returned (.int .i32 (fmul a b)) ∧ w = w' := by
  have hm := mul_bd ha hb
  have h2 : -9223372036854775808 ≤ a * b / 65536 ∧ a * b / 65536 < 9223372036854775808 := by omega
  go_enter Try.func42, Try.ntmps42
  go_wp2_with (go_at_call 69; refine (r8held_any _ (a * b / 65536) h2).mono ?_; rintro e w1 ⟨rfl, rfl⟩)
  go_ret
  exact ⟨rfl, rfl⟩

set_option maxRecDepth 100000 in
theorem r8div_any (w : World) (a b : Int) (ha : -2147483648 ≤ a ∧ a ≤ 2147483647) (hb : -2147483648 ≤ b ∧ b ≤ 2147483647) : Calls Try.prog 43 #[.int .i32 a, .int .i32 b] w fun e w' => e = .returned (.int .i32 (fdiv a b)) ∧ w = w' := by
  by_cases hz : b = 0
  · subst hz
    by_cases h1 : 0 < a
    · have e1 : Hid (fdiv a 0 = 2147483647) := by show _ = _; unfold fdiv; rw [if_neg (by simp), if_pos h1]
      go_enter Try.func43, Try.ntmps43
      go_wp2_with fail
      go_ret
      exact ⟨ret_int e1.out.symm, rfl⟩
    · by_cases h2 : a < 0
      · have e1 : Hid (fdiv a 0 = -2147483648) := by show _ = _; unfold fdiv; rw [if_neg (by simp), if_neg h1, if_pos h2]
        go_enter Try.func43, Try.ntmps43
        go_wp2_with fail
        go_ret
        exact ⟨ret_int e1.out.symm, rfl⟩
      · have e1 : Hid (fdiv a 0 = 0) := by show _ = _; unfold fdiv; rw [if_neg (by simp), if_neg h1, if_neg h2]
        go_enter Try.func43, Try.ntmps43
        go_wp2_with fail
        go_ret
        exact ⟨ret_int e1.out.symm, rfl⟩
  · have e1 : Hid (fdiv a b = held ((a * 65536).tdiv b)) := by show _ = _; unfold fdiv; rw [if_pos hz]
    have hne : (b != 0) = true := by simpa using hz
    have hne2 : (b == 0) = false := by simpa using hz
    have hq : -9223372036854775808 ≤ (a * 65536).tdiv b ∧ (a * 65536).tdiv b < 9223372036854775808 := by
      have h3 : ((a * 65536).tdiv b).natAbs ≤ (a * 65536).natAbs := by
        rw [Int.natAbs_tdiv]; exact Nat.div_le_self _ _
      omega
    go_enter Try.func43, Try.ntmps43
    go_wp2_with (go_at_call 69; refine (r8held_any _ ((a * 65536).tdiv b) hq).mono ?_; rintro e w1 ⟨rfl, rfl⟩)
    go_ret
    exact ⟨ret_int e1.out.symm, rfl⟩

end Go.Proofs.Ytpcffejanlokiaa
