/-
  The law OctetNums, walked: it answers true, whatever is handed in.
-/
import Derived.Test.YtbkieoblhacngaaLaw1
import Derived.Test.YtbkieoblhacngaaRef1W
import Derived.Test.YtbkieoblhacngaaOctQ
namespace Go.Proofs.Ytbkieoblhacngaa
open Go.RowKit Go.Sep Go.Oct

theorem writer_new {W0 w : World} {L : List Asn} (S : Sat W0 w L) : Sat W0 (w.alloc (.cells #[.slice none 0 0] 30)) (Wr w.heap.size [] :: L) :=
  Wr_open.2 ⟨none, 0, (Sat.own_none.2 ⟨rfl, rfl, rfl, S.alloc [.slice none 0 0] _⟩).swap⟩
theorem row_new {W0 w : World} {L : List Asn} (S : Sat W0 w L) : Sat W0 (w.alloc (.cells #[] 5)) (slc 5 1 (some ⟨w.heap.size, 0, none⟩) 0 0 [] :: L) :=
  Sat.own_new (post := []) (S.alloc [] 5) rfl (Nat.le_refl _) (by unfold maxLen; omega) (by simp)

set_option maxRecDepth 100000 in
theorem OctetNums_walk {w : World} {a : Option Addr} {m c : Nat} {bs : List Int} (v : Int) (hv : -9223372036854775808 ≤ v ∧ v < 9223372036854775808) (hR : Rd w a (bv bs)) (hm : bs.length = m) (hB : Bytes bs) :
    Calls Try.prog 4 #[.int .i64 v, .slice a m c] w fun e w' => e = .returned (.bool true) ∧ Below w.heap.size w w' := by
  by_cases hbig : 3000 < m
  · go_enter Try.func4, Try.ntmps4
    go_wp2_with fail
    go_ret
    exact ⟨rfl, Below.refl _ _⟩
  · obtain ⟨i0, hi, hz0, hz1, hz2⟩ := info_parts Try.infoB
    have HM := Lib.hid hm
    have hl := num_length v
    have HN := Lib.hid (rdNum_num hv.1 hv.2 bs)
    have hBn : Bytes (num v ++ bs) := (num_bytes hv.1 hv.2).append hB
    clear hm
    have S0 := writer_new (Sat.start w)
    go_enter Try.func4, Try.ntmps4
    go_wp2_with (first
      | (go_at_call 14; refine (wNum_any S0 v (by omega) (by omega) (by simp)).mono ?_; rintro e w1 ⟨rfl, S1⟩; rw [List.nil_append] at S1)
      | (go_at_call 15; refine (out_any S1 (by omega)).mono ?_; rintro e w2 ⟨ao, cap, rfl, S2⟩; have hR2 := (sbs_rd S2).1.grow fun k hk => Below.heap_alloc w2 (.cells #[] 5) k hk)
      | (at_builtin; refine wpList_append_sat rfl (.tmp 14) (.tmp 15) _ rfl 5 i0 (.int .u8 0) 1 1 Try.underlying22 hi hz0 hz1 hz2 rfl (by decide) (row_new S2) rfl rfl hR2 (by simp [bv_length]) (bv_one _) (by unfold maxLen; omega) (by omega) ?_; intro ao1 cap1 w3 S3; simp only [Nat.zero_add, List.nil_append] at S3; have hR3 := hR.below S3.below)
      | (at_builtin; refine wpList_append_sat rfl (.tmp 16) (.tmp 17) _ rfl 5 i0 (.int .u8 0) 1 1 Try.underlying22 hi hz0 hz1 hz2 rfl (by decide) S3 rfl rfl hR3 (by rw [bv_length, HM.out, Nat.mul_one]) (bv_one _) (by unfold maxLen; omega) (by omega) ?_; intro ao2 cap2 w4 S4; rw [← bv_append] at S4; have hR4 := S4.own_rd; have h04 := S4.own_len)
      | (go_at_call 16; refine (newReader_any S4 hR4 (by rw [List.length_append, HM.out]) (fun h => (h04.2.2.2 h).2) (by omega)).mono ?_; rintro e w5 ⟨p, rfl, S5⟩)
      | (go_at_call 18; refine (refNum_any S5 v hv.1 hv.2).mono ?_; rintro e w6 ⟨ao6, cap6, rfl, S6⟩)
      | (go_at_call 17; refine (same_any (sbs_rd (S6.sel [3])).1 (sbs_rd S6).1 rfl rfl (by omega) (by omega)).mono ?_; rintro e w7 ⟨rfl, hq⟩; rw [decide_eq_true rfl]; have S7 := (S6.sel [1]).quiet hq; clear hq)
      | (go_at_call 19; refine (rNum_any S7 hBn).mono ?_; rintro e w8 ⟨rfl, S8⟩; rw [HN.out] at S8 ⊢)
      | (go_at_call 20; refine (left_any S8).mono ?_; rintro e w9 ⟨rfl, rfl⟩; rw [HM.out])
      | (go_at_call 13; refine (known_any S8).mono ?_; rintro e w10 ⟨rfl, S10⟩)
      )
    go_ret
    exact ⟨rfl, S10.below⟩
end Go.Proofs.Ytbkieoblhacngaa
