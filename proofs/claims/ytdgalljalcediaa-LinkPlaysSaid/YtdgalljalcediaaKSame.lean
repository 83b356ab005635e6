/-
  The law's own helpers over bytes: same, roomy, stands, spoil.
-/
import Derived.Test.YtdgalljalcediaaFOct2
import Derived.Deep.QuietTactic
import Derived.BigQuiet
namespace Go.Proofs.Ytdgalljalcediaa
open Go.RowKit Go.Sep Go.Oct

set_option maxRecDepth 100000 in
theorem same_any {w : World} {a b : Option Addr} {m n c d : Nat} {xs ys : List Int} (hx : Rd w a (bv xs)) (hy : Rd w b (bv ys)) (hm : xs.length = m) (hn : ys.length = n) (hb : m ≤ 1099511627776) (hb' : n ≤ 1099511627776) :
    Calls Try.prog 27 #[.slice a m c, .slice b n d] w fun e w' => e = .returned (.bool (decide (xs = ys))) ∧ ∃ nq, w' = w.drewN nq := by
  subst hm
  subst hn
  by_cases hl : xs.length = ys.length
  · have hl' : ((xs.length : Int) != (ys.length : Int)) = false := by simp [hl]
    go_enter Try.func27, Try.ntmps27
    have HL := Lib.hid hl
    clear hl
    go_wp2_with fail
    go_loopw [5] (fun i wr => ∃ k nq : Nat, k ≤ xs.length ∧ i = .int .i64 k ∧ wr = w.drewN nq ∧ Hid (xs.take k = ys.take k)) (fun i _ => xs.length - (intOf i).toNat)
    case atStart => exact ⟨0, 0, by omega, rfl, rfl, rfl⟩
    case round =>
      obtain ⟨k, nq, hk, rfl, rfl, HK⟩ := hrel
      by_cases hlt : k < xs.length
      · obtain ⟨x, hxk⟩ := at_some hlt
        have hlt2 : k < ys.length := by rw [← HL.out]; exact hlt
        obtain ⟨y, hyk⟩ := at_some hlt2
        obtain ⟨b1, off1, rfl, hc1⟩ := hx k _ (cell_some hxk)
        obtain ⟨b2, off2, rfl, hc2⟩ := hy k _ (cell_some hyk)
        have HX := Lib.hid hxk
        have HY := Lib.hid hyk
        clear hxk hyk hx hy
        by_cases hxy : x = y
        · subst hxy
          have hne : (x != x) = false := by simp
          have HK' : Hid (xs.take (k + 1) = ys.take (k + 1)) := by show _ = _; rw [List.take_add_one, List.take_add_one, HX.out, HY.out, HK.out]
          go_wp2
          go_quiet (fail)
          go_wp2
          go_roundw
          case rel => exact ⟨k + 1, _, by omega, by go_num, rfl, HK'⟩
          case measure => simp [intOf]; omega
        · have hne : (x != y) = true := by simpa using hxy
          have hd : decide (xs = ys) = false := by
            refine decide_eq_false fun e => hxy ?_
            have h1 := HX.out
            rw [e, HY.out] at h1
            exact (Option.some.inj h1).symm
          have HD := Lib.hid hd
          clear hd
          go_wp2
          go_quiet (fail)
          go_wp2
          go_ret
          exact ⟨by rw [HD.out]; rfl, _, World.drewN_drewN _ _ _⟩
      · have hd : decide (xs = ys) = true := by
          refine decide_eq_true ?_
          have h1 := HK.out
          rw [List.take_of_length_le (by omega), List.take_of_length_le (by have := HL.out; omega)] at h1
          exact h1
        have HD := Lib.hid hd
        clear hd
        go_wp2
        go_ret
        exact ⟨by rw [HD.out]; rfl, _, rfl⟩
  · have hl' : ((xs.length : Int) != (ys.length : Int)) = true := by rw [bne_iff_ne]; omega
    have hd : decide (xs = ys) = false := decide_eq_false fun e => hl (congrArg List.length e)
    have HD := Lib.hid hd
    clear hd hl
    go_enter Try.func27, Try.ntmps27
    go_wp2_with fail
    go_ret
    exact ⟨by rw [HD.out]; rfl, 0, rfl⟩

theorem rd_prefix {w : World} {a : Option Addr} {xs ys : List Int} (h : Rd w a (bv (xs ++ ys))) : Rd w a (bv xs) := by
  have h' := h.take xs.length
  rw [bv_append, show xs.length = (bv xs).length from (bv_length xs).symm, List.take_left] at h'
  exact h'

set_option maxRecDepth 100000 in
/-- bytes in a list of their own, one place of it marked behind them, and another one behind that -/
theorem roomy_any {W0 w : World} {L : List Asn} (S : Sat W0 w L) {a : Option Addr} {m c : Nat} {xs : List Int} (hR0 : ∀ w', Sat W0 w' L → Rd w' a (bv xs)) (hm : xs.length = m) (hb : m ≤ 1000000000000) :
    Calls Try.prog 38 #[.slice a m c] w fun e w' => ∃ ad cap, e = .returned (.slice (some ad) (m + 1) cap) ∧ Sat W0 w' (sbs (some ad) (m + 1) cap (xs ++ [171]) :: L) := by
  obtain ⟨i0, hi, hz0, hz1, hz2⟩ := info_parts Try.infoB
  have S0 : Sat W0 (w.alloc (.cells #[] 5)) (slc 5 1 (some ⟨w.heap.size, 0, none⟩) 0 0 [] :: L) := Sat.own_new (post := []) (S.alloc [] 5) rfl (Nat.le_refl _) (by unfold maxLen; omega) (by simp)
  go_enter Try.func38, Try.ntmps38
  go_wp2_with (first
    | (at_builtin; refine wpList_append_sat rfl (.tmp 3) (.tmp 4) _ rfl 5 i0 (.int .u8 0) 1 1 Try.underlying29 hi hz0 hz1 hz2 rfl (by decide) S0 rfl rfl (hR0 _ S0.tail) (by simp [bv_length, hm]) (bv_one _) (by unfold maxLen; omega) (by omega) ?_; intro ao1 cap1 w1 S1; rw [Nat.zero_add] at S1 ⊢)
    | (at_builtin; refine wpList_append_sat rfl (.tmp 5) (.tmp 6) _ rfl 5 i0 (.int .u8 0) 1 1 Try.underlying29 hi hz0 hz1 hz2 rfl (by decide) (S1.alloc [.int .u8 171] 5).swap rfl rfl (Rd.lit (heap_alloc_new w1 _)) rfl (bv_one [171]) (by unfold maxLen; omega) (by omega) ?_; intro ao2 cap2 w2 S2)
    | (at_builtin; refine wpList_append_sat rfl (.tmp 7) (.tmp 8) _ rfl 5 i0 (.int .u8 0) 1 1 Try.underlying29 hi hz0 hz1 hz2 rfl (by decide) (S2.alloc [.int .u8 171] 5).swap rfl rfl (Rd.lit (heap_alloc_new w2 _)) rfl (bv_one [171]) (by unfold maxLen; omega) (by omega) ?_; intro ao3 cap3 w3 S3; have hl3 := S3.own_len))
  go_ret
  cases ao3 with
  | none => have := hl3.2.2.2 rfl; omega
  | some ad =>
    refine ⟨ad, cap3, rfl, ?_⟩
    have S4 : Sat W0 w3 (slc 5 1 (some ad) (m + 1 + 1) cap3 (bv (xs ++ [171]) ++ bv [171]) :: blk w2.heap.size [.int .u8 171] 5 :: blk w1.heap.size [.int .u8 171] 5 :: L) := by rw [bv_append]; exact S3
    have S5 := Sat.own_shrink S4 (by simp [bv_length, hm])
    exact S5.under.tail.tail

set_option maxRecDepth 100000 in
theorem stands_any {w : World} {a b : Option Addr} {m n c d : Nat} {xs : List Int} (hx : Rd w a (bv (xs ++ [171]))) (hy : Rd w b (bv xs)) (hm : m = xs.length + 1) (hn : xs.length = n) (hmc : m ≤ c) (hb : n ≤ 1000000000000) :
    Calls Try.prog 40 #[.slice a m c, .slice b n d] w fun e w' => e = .returned (.bool true) ∧ ∃ nq, w' = w.drewN nq := by
  subst hn
  subst hm
  obtain ⟨b1, off1, rfl, hc1⟩ := hx xs.length (.int .u8 171) (by simp [bv])
  have hx' := rd_prefix hx
  go_enter Try.func40, Try.ntmps40
  go_wp2_with (go_at_call 27; refine (same_any hx' hy rfl rfl (by omega) (by omega)).mono ?_; rintro e w1 ⟨rfl, nq, rfl⟩; rw [decide_eq_true rfl])
  go_ret
  exact ⟨rfl, nq, rfl⟩
end Go.Proofs.Ytdgalljalcediaa
