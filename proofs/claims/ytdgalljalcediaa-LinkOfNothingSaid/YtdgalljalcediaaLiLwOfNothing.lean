/-
  The law LinkOfNothing, walked.
-/
import Derived.Test.YtdgalljalcediaaLiK
import Derived.Test.YtdgalljalcediaaLiI
import Derived.Test.YtdgalljalcediaaLi5
namespace Go.Proofs.Ytdgalljalcediaa
open Go.RowKit Go.Sep Go.Oct
set_option linter.unusedSimpArgs false

set_option maxRecDepth 100000 in
set_option maxHeartbeats 6400000 in
theorem LinkOfNothing_walk {w : World} {a : Option Addr} {m c : Nat} :
    Calls Try.prog 10 #[.slice a m c] w fun e w' => e = .returned (.bool true) ∧ Below w.heap.size w w' := by
  have S0 := Sat.start w
  by_cases b1 : 1000 < m
  · have b1' : decide ((1000 : Int) < (m : Int)) = true := decide_eq_true (by omega)
    go_enter Try.func10, Try.ntmps10
    go_wp2_with fail
    go_ret
    exact ⟨rfl, S0.below⟩
  have b1' : decide ((1000 : Int) < (m : Int)) = false := decide_eq_false (by omega)
  go_enter Try.func10, Try.ntmps10
  go_wp2_with (first
    | (go_at_call 14; refine (send_none _ _).mono ?_; rintro e w1 ⟨rfl, rfl⟩)
    | (go_at_call 15; refine (hear_none _ _).mono ?_; rintro e w1 ⟨rfl, rfl⟩)
    | (go_at_call 20; refine (stats_none _).mono ?_; rintro e w1 ⟨rfl, rfl⟩)
    | (go_at_call 22; refine (tick_none _).mono ?_; rintro e w1 ⟨rfl, rfl⟩)
    | (go_at_call 16; refine (left_none _).mono ?_; rintro e w1 ⟨rfl, rfl⟩)
    | (go_at_call 12; refine (known_any S0).mono ?_; rintro e w8 ⟨rfl, S8⟩))
  go_ret
  exact ⟨rfl, S8.below⟩
end Go.Proofs.Ytdgalljalcediaa
