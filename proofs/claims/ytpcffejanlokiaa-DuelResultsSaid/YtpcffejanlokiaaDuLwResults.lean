/-
  The law DuelResults, walked.
-/
import Derived.Test.YtpcffejanlokiaaDu5
namespace Go.Proofs.Ytpcffejanlokiaa
open Go.RowKit Go.Sep Go.Vm
set_option linter.unusedSimpArgs false

set_option maxRecDepth 100000 in
set_option maxHeartbeats 3200000 in
theorem DuelResults_walk {w : World} {s : VS} (hs : s.Ok) {a : Option Addr} {n c : Nat} {cap fuel : Int} :
    Calls Try.prog 4 #[.agg (svals s).toArray, .agg #[.slice a n c, .int .i64 cap, .int .i64 fuel]] w fun e w' => e = .returned (.bool true) ∧ Below w.heap.size w w' := by
  have S1 := ((Sat.start w).alloc (svals s) 31).alloc [.slice a n c, .int .i64 cap, .int .i64 fuel] 24
  simp only [World.size_alloc] at S1
  have HL := Lib.hid (svals_length hs.len)
  go_enter Try.func4, Try.ntmps4
  go_wp2_with (first
    | (refine wpList_load_part rfl 31 _ rfl (n := 20) rfl (Sat.whole (S1.sel [1]) 20) HL.out Try.underlying31 rfl Try.sizeS ?_)
    | (refine wpList_load_part rfl 31 _ rfl (n := 20) rfl (Sat.whole (S2.sel [1]) 20) HL.out Try.underlying31 rfl Try.sizeS ?_)
    | (go_at_call 14; refine (result_any S1 hs _ _ _ cap fuel).mono ?_; unfold ResPost; rintro e w2 ⟨rfl, S2⟩; have g2 := gat S2)
    | (go_at_call 15; refine (r11result_any S2 hs _ _ _ cap fuel).mono ?_; unfold ResPost; rintro e w3 ⟨rfl, S3⟩)
    | (go_at_call 13; refine (dknown_any S3).mono ?_; rintro e w4 ⟨rfl, S4⟩))
  go_ret
  exact ⟨rfl, S4.below⟩
end Go.Proofs.Ytpcffejanlokiaa
