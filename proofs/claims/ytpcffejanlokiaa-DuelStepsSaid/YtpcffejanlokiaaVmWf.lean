/-
  Chapter 10's document: some of the instructions done.
-/
import Derived.Test.YtpcffejanlokiaaVmWz
import Derived.Deep.RegionHeld3
namespace Go.Proofs.Ytpcffejanlokiaa
open Go.RowKit Go.Sep Go.Vm
set_option linter.unusedSimpArgs false
set_option linter.unusedVariables false

set_option maxRecDepth 100000 in
set_option maxHeartbeats 6400000 in
theorem does_op16 {W0 w : World} {L : List Asn} {p : Nat} {m : RM} (S : Sat W0 w (Rc p m :: L)) (hm : RM.Ok m) (hpc : 0 ≤ m.pc ∧ m.pc ≤ 300) {arg : Int} {n : Nat} (hmay : mayP 16 arg n = true) (hfew : ¬ m.st.length < takesP 16) :
    Calls Try.prog 26 #[.pointer (some ⟨p, 0, none⟩), .agg #[.int .i64 16, .int .i64 arg], .int .i64 n] w (DoesPost W0 L p (doesP 16 arg n m)) := by
  have S1 : Sat W0 (w.alloc (.cells #[.int .i64 16, .int .i64 arg] 68)) (Rc p m :: blk w.heap.size [.int .i64 16, .int .i64 arg] 68 :: L) := (S.alloc [.int .i64 16, .int .i64 arg] 68).sel [1]
  obtain ⟨ao, cap, S2⟩ := Rc_open.1 S1
  have h := hm.len
  have c22 := (rc_at h S2).st
  have hf : ¬ (m.st.length : Int) < (takesP 16 : Int) := by omega
  have HE := Lib.hid (doesP_act (n := n) (arg := arg) (m := m) hfew (by decide) (by decide))
  have hm1 : RM.Ok { m with pc := m.pc + 1 } := ⟨hm.len, hm.st, hm.i0, hm.i1, hm.seed, hm.frame, hm.stl⟩
  have HT : Hid (takesP 16 = takesP 16) := rfl
  generalize htk : takesP 16 = tk at hf hfew HT
  have htk' := Lib.hid htk
  clear hfew htk HT
  go_enter Try.func26, Try.ntmps26
  go_wp2_with fail
  go_quiet (first | (go_at_call 33; exact Calls.quiet_of_same ((takes_any _ 16 ⟨by decide, by decide⟩).mono fun _ _ ⟨a, b⟩ => ⟨a.trans (by rw [htk'.out]), b.symm⟩)))
  have S3 := S1.drewN nq
  generalize (w.alloc (.cells #[.int .i64 16, .int .i64 arg] 68)).drewN nq = w3 at S3 ⊢
  generalize w.heap.size = y at S3 ⊢
  obtain ⟨ao3, cap3, S4⟩ := Rc_open.1 S3
  have hA := rc_at h S4
  have xc := S3.cell 1 rfl 0
  have xa := S3.cell 1 rfl 1
  simp only [List.getElem?_cons_zero, List.getElem?_cons_succ] at xc xa
  have c23 := hA.pc
  have f23 := hA.free 23
  have S5 := Rc_open.2 ⟨ao3, cap3, rc_pc h S4 (m.pc + 1)⟩
  clear hA
  go_upto_block 0 with fail
  generalize w3.setCell ⟨p, 23, none⟩ (.int .i64 (m.pc + 1)) = w6 at S5 ⊢
  obtain ⟨m1, hm1e⟩ : ∃ m1 : RM, m1 = { m with pc := m.pc + 1 } := ⟨_, rfl⟩
  have S6 : Sat W0 w6 (Rc p m1 :: blk y [.int .i64 16, .int .i64 arg] 68 :: L) := by rw [hm1e]; exact S5
  rw [← hm1e] at hm1 HE
  clear S5 S4 S3 S2 S1 S c22 c23 f23 xc xa hf hpc h hm hm1e
  have xc := S6.cell 1 rfl 0
  have xa := S6.cell 1 rfl 1
  simp only [List.getElem?_cons_zero, List.getElem?_cons_succ] at xc xa
  have hl := hm1.len
  go_cut [] (fun wx => ∃ m2, m2 = actP 16 arg m1 ∧ Sat W0 wx (Rc p m2 :: blk y [.int .i64 16, .int .i64 arg] 68 :: L))
  case first =>
    clear HE
    have ha : 0 ≤ arg ∧ arg ≤ 1 := by rw [may16] at hmay; exact of_decide_eq_true hmay
    obtain ⟨k, rfl⟩ : ∃ k : Nat, arg = (k : Int) := ⟨arg.toNat, by omega⟩
    have k0 : (0 : Int) ≤ (k : Int) := Int.natCast_nonneg _
    have k1 : (k : Int) < 2 := by omega
    obtain ⟨v, hv⟩ : ∃ v : Int, v = if (k : Int) = 0 then m1.i0 else m1.i1 := ⟨_, rfl⟩
    have hb : 0 ≤ v ∧ v < 65536 := by
      have a := hm1.i0
      have b := hm1.i1
      rw [hv]
      split <;> assumption
    obtain ⟨ao2, cap2, S7⟩ := Rc_open.1 S6.drew
    have c1 : w6.drew.cell? ⟨p, 20 + k, none⟩ = some (.int .u16 v) := by
      rw [hv]
      rcases (show k = 0 ∨ k = 1 by omega) with rfl | rfl
      · exact (rc_at hl S7).i0
      · exact (rc_at hl S7).i1
    have HV : Hid (actP 16 k m1 = m1.push v) := by show _ = _; rw [hv]; rfl
    have hwr : IntKind.i32.wrap v = v := by unfold IntKind.wrap; simp [IntKind.signed, IntKind.bits]; omega
    have HV2 : Hid (actP 16 k m1 = m1.push (IntKind.i32.wrap v)) := by show _ = _; rw [hwr]; exact HV.out
    clear hv hwr HV
    go_wp2_with fail
    go_region_with (go_at_call 34; refine (rpush_any hl S6.drew (IntKind.i32.wrap v)).mono ?_; rintro e w' ⟨rfl, S8⟩)
    all_goals
      go_wp2_with fail
      go_meet
      exact ⟨_, rfl, by rw [HV2.out]; exact S8⟩
  case rest =>
    obtain ⟨m2, hm2, S7⟩ := hcut
    have h2 : m2.s.cells.length = 16 := by rw [hm2]; exact actP_len hl
    rw [← hm2] at HE
    obtain ⟨ao4, cap4, S8⟩ := Rc_open.1 S7
    have hB := rc_at h2 S8
    have c25 := hB.bad
    have c23 := hB.pc
    clear hB hm2
    cases hbd : m2.bad with
    | true =>
      rw [hbd] at c25 HE
      go_wp2_with fail
      go_ret
      unfold DoesPost
      rw [HE.out]
      exact ⟨rfl, (S7.sel [1]).tail⟩
    | false =>
      rw [hbd] at c25 HE
      go_wp2_with fail
      go_ret
      unfold DoesPost
      rw [HE.out]
      exact ⟨by simp, (S7.sel [1]).tail⟩

end Go.Proofs.Ytpcffejanlokiaa
