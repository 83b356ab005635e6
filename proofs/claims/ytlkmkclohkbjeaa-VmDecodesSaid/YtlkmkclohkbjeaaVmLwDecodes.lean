/-
  The law VmDecodes, walked.
-/
import Derived.Test.YtlkmkclohkbjeaaVmZ
import Derived.Test.YtlkmkclohkbjeaaVmEn
import Derived.Test.YtlkmkclohkbjeaaVSame
import Derived.Test.YtlkmkclohkbjeaaVmK
import Derived.Test.YtlkmkclohkbjeaaVmB
namespace Go.Proofs.Ytlkmkclohkbjeaa
open Go.RowKit Go.Sep Go.Oct Go.Vm
set_option linter.unusedSimpArgs false

set_option maxRecDepth 100000 in
set_option maxHeartbeats 6400000 in
theorem VmDecodes_walk {w : World} {a : Option Addr} {n c : Nat} {bs : List Int} (hR : Rd w a (bv bs)) (hm : bs.length = n) (hB : Bytes bs) (hnc : n ≤ c) (hcm : c ≤ maxLen) :
    Calls Try.prog 13 #[.slice a n c] w fun e w' => e = .returned (.bool true) ∧ Below w.heap.size w w' := by
  have S0 := Sat.start w
  have HM := Lib.hid hm
  have HR := Lib.hid (fun (L : List Asn) (w' : World) (h : Sat w w' L) => hR.below h.below)
  have HB := Lib.hid hB
  by_cases hbig : 1000 < n
  · have hd : decide ((1000 : Int) < (n : Int)) = true := decide_eq_true (by omega)
    clear hm hR hB
    go_enter Try.func13, Try.ntmps13
    go_wp2_with fail
    go_ret
    exact ⟨rfl, S0.below⟩
  have hd : decide ((1000 : Int) < (n : Int)) = false := decide_eq_false (by omega)
  have hto := decP_ok hB
  have hback := encP_decP hB
  obtain ⟨t, er, hr⟩ : ∃ t er, decP bs = (t, er) := ⟨_, _, rfl⟩
  rw [hr] at hto hback
  have HBK := Lib.hid hback
  have HD := Lib.hid hr
  have HTO := Lib.hid hto
  have HTL := Lib.hid (svals_length hto.len)
  have HEQ := Lib.hid (fun w' => (run_neq_state (s := t) (t := t) w' hto.len hto.len).trans (by rw [decide_eq_true rfl]))
  have hne : (er != er) = false := by simp
  clear hm hR hB hr hto hback
  by_cases h0 : er = 0
  all_goals
    go_enter Try.func13, Try.ntmps13
    go_upto_region 8 with (first
      | (refine wpList_load_part rfl 28 _ rfl (n := 20) rfl (Sat.whole S6 20) HTL.out Try.underlying28 rfl Try.sizeS ?_)
      | (refine wpList_load_part rfl 28 _ rfl (n := 20) rfl (Sat.whole (S6.sel [1]) 20) HTL.out Try.underlying28 rfl Try.sizeS ?_)
      | (refine wpList_eq_agg rfl .neq 28 _ _ rfl (r := false) rfl rfl (by kernel_rfl) (HEQ.out _) ?_)
      | (refine wpList_store_sat (off := 0) (n := 20) rfl 28 _ _ rfl S3 rfl rfl HTL.out (by decide) Try.sizeS (svals_one t) ?_; intro w4 S4; rw [zstore] at S4)
      | (refine wpList_store_sat (off := 0) (n := 20) rfl 28 _ _ rfl S5 rfl rfl HTL.out (by decide) Try.sizeS (svals_one t) ?_; intro w6 S6; rw [zstore] at S6)
      | (go_at_call 26; refine (roomy_any S0 (fun w' h => HR.out _ _ h) HM.out (by omega)).mono ?_; rintro e w1 ⟨ad, cp, rfl, S1⟩; have hcp := (sbs_rd S1).2.2.1; have hncp : n ≤ cp := by omega)
      | (go_at_call 27; refine (vDecode_any S1 (rd_prefix S1.own_rd) HM.out (fun h => by cases h) HB.out (by omega)).mono ?_; unfold Stepped; rintro e w2 ⟨rfl, S2⟩; rw [HD.out]; have S3 := S2.alloc [.int .i64 0, .int .i32 0, .int .i32 0, .int .i32 0, .int .i32 0, .int .i32 0, .int .i32 0, .int .i32 0, .int .i32 0, .int .i32 0, .int .i32 0, .int .i32 0, .int .i32 0, .int .i32 0, .int .i32 0, .int .i32 0, .int .i32 0, .int .u32 0, .bool false, .int .i64 0] 28)
      | (go_at_call 28; refine (r10Decode_any S4 (fun w' h => HR.out _ _ h) HM.out hnc hcm HB.out).mono ?_; unfold Stepped; rintro e w5 ⟨rfl, S5a⟩; rw [HD.out]; have S5 := S5a.alloc [.int .i64 0, .int .i32 0, .int .i32 0, .int .i32 0, .int .i32 0, .int .i32 0, .int .i32 0, .int .i32 0, .int .i32 0, .int .i32 0, .int .i32 0, .int .i32 0, .int .i32 0, .int .i32 0, .int .i32 0, .int .i32 0, .int .i32 0, .int .u32 0, .bool false, .int .i64 0] 28)
      | (go_at_call 29; refine (stands_any (S6.sel [2]).own_rd (HR.out _ _ S6) (by rw [HM.out]) HM.out hcp (by omega)).mono ?_; rintro e w7 ⟨rfl, nq7, hq⟩; have S7 : Sat w w7 _ := hq ▸ S6.drewN nq7; clear hq))
  · have hb : (er != 0) = false := by rw [h0]; rfl
    have hbk := HBK.out h0
    have hel : (encP t).length ≤ 1000 := by rw [hbk, HM.out]; omega
    have HBE := Lib.hid hbk
    clear h0 hbk
    go_wp2_with (first
      | (refine wpList_load_guard rfl 28 _ rfl (n := 20) rfl (Sat.whole (S7.sel [1]) 20) HTL.out Try.underlying28 rfl Try.sizeS ?_)
      | (go_at_call 31; refine (vEncode_any S7 HTO.out).mono ?_; unfold GivesE; rintro e w8 ⟨a8, c8, rfl, S8⟩)
      | (go_at_call 30; refine (same_any S8.own_rd (HR.out _ _ S8) rfl HM.out (by omega) (by omega)).mono ?_; rw [decide_eq_true HBE.out]; rintro e w9 ⟨rfl, nq9, hq⟩; have S9 : Sat w w9 _ := hq ▸ S8.drewN nq9; clear hq)
      | (go_at_call 19; refine (vknown_any S9).mono ?_; rintro e w10 ⟨rfl, S10⟩))
    go_ret
    exact ⟨rfl, S10.below⟩
  · have hb : (er != 0) = true := by simpa using h0
    go_wp2_with (first
      | (go_at_call 19; refine (vknown_any S7).mono ?_; rintro e w10 ⟨rfl, S10⟩))
    go_ret
    exact ⟨rfl, S10.below⟩
end Go.Proofs.Ytlkmkclohkbjeaa
