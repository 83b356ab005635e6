/-
  The law LinkIds, walked.
-/
import Derived.Test.YtdgalljalcediaaLiK
import Derived.Test.YtdgalljalcediaaLiI
import Derived.Test.YtdgalljalcediaaLiS
namespace Go.Proofs.Ytdgalljalcediaa
open Go.RowKit Go.Sep Go.Oct
set_option linter.unusedSimpArgs false

set_option maxRecDepth 100000 in
set_option maxHeartbeats 6400000 in
theorem LinkIds_walk {w : World} {x y : Int} (hx : I64 x) (hy : I64 y) {a : Option Addr} {m c : Nat} {row : List Int} (hr : Rd w a (bv row)) (hl : row.length = m) (hB : Bytes row) (h0 : a = none → c = 0) :
    Calls Try.prog 6 #[.int .i64 x, .int .i64 y, .slice a m c] w fun e w' => e = .returned (.bool true) ∧ Below w.heap.size w w' := by
  have S0 := Sat.start w
  by_cases b0 : x = y
  · subst b0
    have b0' : (x == x) = true := by simp
    go_enter Try.func6, Try.ntmps6
    go_wp2_with (first
      | (go_at_call 12; refine (known_any S0).mono ?_; rintro e w8 ⟨rfl, S8⟩))
    go_ret
    exact ⟨rfl, S8.below⟩
  have b0' : (x == y) = false := by simpa using b0
  by_cases b1 : 1000 < m
  · have b1' : decide ((1000 : Int) < (m : Int)) = true := decide_eq_true (by omega)
    clear b0
    go_enter Try.func6, Try.ntmps6
    go_wp2_with (first
      | (go_at_call 12; refine (known_any S0).mono ?_; rintro e w8 ⟨rfl, S8⟩))
    go_ret
    exact ⟨rfl, S8.below⟩
  have b1' : decide ((1000 : Int) < (m : Int)) = false := decide_eq_false (by omega)
  have hsd := send_PS (id := x) (rs := []) (p := row) (by omega) (by simp)
  have hot := hear_other b0 hx (row := row) (by omega)
  have hpl := packP_length (id := x) (n := 1) (came := 0) (row := row) (by omega)
  have hpb := packP_bytes (id := x) (n := 1) (came := 0) (row := row) hx (by unfold I64; omega) (by unfold I64; omega) hB (by omega)
  have hout : (sendP (LS.new x) row).1 = [packP x 1 0 row] := hsd.2.2.2 (by simp)
  have hP : sendP (LS.new x) row = ([packP x 1 0 row], 0, PS x [row]) := by
    have h1 : (sendP (LS.new x) row).2.1 = 0 := hsd.2.1
    have h2 : (sendP (LS.new x) row).2.2 = PS x [row] := hsd.1
    rw [← hout, ← h1, ← h2]
  have hv : (LS.new y).sent = 0 := rfl
  generalize packP x 1 0 row = P at *
  have HS := Lib.hid (fun (w' : World) (L : List Asn) (g : Nat) (h : Sat w w' (PL g (LS.new x) :: L)) => show Calls Try.prog 14 #[.pointer (some ⟨g, 0, none⟩), .slice a m c] w' (Sent w L g ([P], 0, PS x [row])) by
    have := send_any h (LS.new_ok hx) (by omega) (hr.below h.below) hl h0 hB (by omega); rw [hP] at this; exact this)
  have HH := Lib.hid (fun (w' : World) (L : List Asn) (g : Nat) (a : Option Addr) (c : Nat) (h : Sat w w' (PL g (LS.new y) :: L)) (hR : ∀ w', Sat w w' L → Rd w' a (bv P)) (hc : P.length ≤ c) => show Calls Try.prog 15 #[.pointer (some ⟨g, 0, none⟩), .slice a P.length c] w' (HeardP w L g ([], [], { LS.new y with vain := 1 })) by
    have := hear_any h (LS.new_ok hy) (by omega) hR rfl hpb hc (by omega); rw [hot] at this; exact this)
  clear hsd hot hout hP hr hl b0 hpb hv
  go_enter Try.func6, Try.ntmps6
  go_wp2_with (first
    | (go_at_call 13; refine (new_any S1 y).mono ?_; rintro e w2 ⟨gb, rfl, S2⟩)
    | (go_at_call 13; refine (new_any S0 x).mono ?_; rintro e w1 ⟨ga, rfl, S1⟩)
    | (go_at_call 14; refine (HS.out _ _ _ S2.swap).mono ?_; unfold Sent; rintro e w4 ⟨oa, oc, rfl, S4⟩; dsimp only at S4; obtain ⟨b5, o5, x5, c5, hs5, rfl, i5, j5, k5, -, S5, H5⟩ := brs_at (i := 0) S4 rfl; have d5 := (H5 _ _ S5).1; simp only [Nat.add_zero] at d5)
    | (go_at_call 15; refine (HH.out _ _ _ _ _ (S5.sel [3]) (fun w' h => (H5 _ _ h).2) i5).mono ?_; unfold HeardP; rintro e w6 ⟨r6, s6, o6, c6, rfl, S6⟩; dsimp only at S6)
    | (go_at_call 20; refine (stats_any (S6.sel [2])).mono ?_; rintro e w7 ⟨rfl, S7⟩; dsimp only)
    | (go_at_call 16; refine (left_any (S7.sel [5])).mono ?_; rintro e w8 ⟨rfl, S8⟩)
    | (go_at_call 12; refine (known_any S8).mono ?_; rintro e w9 ⟨rfl, S9⟩))
  go_ret
  exact ⟨rfl, S9.below⟩
end Go.Proofs.Ytdgalljalcediaa
