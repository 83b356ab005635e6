/-
  Chapter 10's document: some of the instructions done.
-/
import Derived.Test.YtpcffejanlokiaaVmWz
namespace Go.Proofs.Ytpcffejanlokiaa
open Go.RowKit Go.Sep Go.Vm
set_option linter.unusedSimpArgs false
set_option linter.unusedVariables false

set_option maxRecDepth 100000 in
set_option maxHeartbeats 6400000 in
theorem does_op1 {W0 w : World} {L : List Asn} {p : Nat} {m : RM} (S : Sat W0 w (Rc p m :: L)) (hm : RM.Ok m) (hpc : 0 ≤ m.pc ∧ m.pc ≤ 300) {arg : Int} {n : Nat} (hmay : mayP 1 arg n = true) (hfew : ¬ m.st.length < takesP 1) :
    Calls Try.prog 26 #[.pointer (some ⟨p, 0, none⟩), .agg #[.int .i64 1, .int .i64 arg], .int .i64 n] w (DoesPost W0 L p (doesP 1 arg n m)) := by
  have S1 : Sat W0 (w.alloc (.cells #[.int .i64 1, .int .i64 arg] 68)) (Rc p m :: blk w.heap.size [.int .i64 1, .int .i64 arg] 68 :: L) := (S.alloc [.int .i64 1, .int .i64 arg] 68).sel [1]
  obtain ⟨ao, cap, S2⟩ := Rc_open.1 S1
  have h := hm.len
  have c22 := (rc_at h S2).st
  have hf : ¬ (m.st.length : Int) < (takesP 1 : Int) := by omega
  have HE := Lib.hid (doesP_act (n := n) (arg := arg) (m := m) hfew (by decide) (by decide))
  have hm1 : RM.Ok { m with pc := m.pc + 1 } := ⟨hm.len, hm.st, hm.i0, hm.i1, hm.seed, hm.frame, hm.stl⟩
  have HT : Hid (takesP 1 = takesP 1) := rfl
  generalize htk : takesP 1 = tk at hf hfew HT
  have htk' := Lib.hid htk
  clear hfew htk HT
  go_enter Try.func26, Try.ntmps26
  go_wp2_with fail
  go_quiet (first | (go_at_call 33; exact Calls.quiet_of_same ((takes_any _ 1 ⟨by decide, by decide⟩).mono fun _ _ ⟨a, b⟩ => ⟨a.trans (by rw [htk'.out]), b.symm⟩)))
  have S3 := S1.drewN nq
  generalize (w.alloc (.cells #[.int .i64 1, .int .i64 arg] 68)).drewN nq = w3 at S3 ⊢
  generalize w.heap.size = y at S3 ⊢
  obtain ⟨ao3, cap3, S4⟩ := Rc_open.1 S3
  have hA := rc_at h S4
  have xc := S3.cell 1 rfl 0
  have xa := S3.cell 1 rfl 1
  simp only [List.getElem?_cons_zero, List.getElem?_cons_succ] at xc xa
  have c23 := hA.pc
  have f23 := hA.free 23
  have S5 := Rc_open.2 ⟨ao3, cap3, rc_pc h S4 (m.pc + 1)⟩
  clear hA
  go_upto_block 0 with fail
  generalize w3.setCell ⟨p, 23, none⟩ (.int .i64 (m.pc + 1)) = w6 at S5 ⊢
  obtain ⟨m1, hm1e⟩ : ∃ m1 : RM, m1 = { m with pc := m.pc + 1 } := ⟨_, rfl⟩
  have S6 : Sat W0 w6 (Rc p m1 :: blk y [.int .i64 1, .int .i64 arg] 68 :: L) := by rw [hm1e]; exact S5
  rw [← hm1e] at hm1 HE
  clear S5 S4 S3 S2 S1 S c22 c23 f23 xc xa hf hpc h hm hm1e
  have xc := S6.cell 1 rfl 0
  have xa := S6.cell 1 rfl 1
  simp only [List.getElem?_cons_zero, List.getElem?_cons_succ] at xc xa
  have hl := hm1.len
  go_cut [] (fun wx => ∃ m2, m2 = actP 1 arg m1 ∧ Sat W0 wx (Rc p m2 :: blk y [.int .i64 1, .int .i64 arg] 68 :: L))
  case first =>
    clear HE
    have ha : -2147483648 ≤ arg ∧ arg ≤ 2147483647 := by rw [may1] at hmay; exact of_decide_eq_true hmay
    go_wp2_with (go_at_call 34; refine (rpush_any hl S6 arg).mono ?_; rintro e w' ⟨rfl, S7⟩)
    go_meet
    exact ⟨_, rfl, S7⟩
  case rest =>
    obtain ⟨m2, hm2, S7⟩ := hcut
    have h2 : m2.s.cells.length = 16 := by rw [hm2]; exact actP_len hl
    rw [← hm2] at HE
    obtain ⟨ao4, cap4, S8⟩ := Rc_open.1 S7
    have hB := rc_at h2 S8
    have c25 := hB.bad
    have c23 := hB.pc
    clear hB hm2
    cases hbd : m2.bad with
    | true =>
      rw [hbd] at c25 HE
      go_wp2_with fail
      go_ret
      unfold DoesPost
      rw [HE.out]
      exact ⟨rfl, (S7.sel [1]).tail⟩
    | false =>
      rw [hbd] at c25 HE
      go_wp2_with fail
      go_ret
      unfold DoesPost
      rw [HE.out]
      exact ⟨by simp, (S7.sel [1]).tail⟩

set_option maxRecDepth 100000 in
set_option maxHeartbeats 6400000 in
theorem does_op2 {W0 w : World} {L : List Asn} {p : Nat} {m : RM} (S : Sat W0 w (Rc p m :: L)) (hm : RM.Ok m) (hpc : 0 ≤ m.pc ∧ m.pc ≤ 300) {arg : Int} {n : Nat} (hmay : mayP 2 arg n = true) (hfew : ¬ m.st.length < takesP 2) :
    Calls Try.prog 26 #[.pointer (some ⟨p, 0, none⟩), .agg #[.int .i64 2, .int .i64 arg], .int .i64 n] w (DoesPost W0 L p (doesP 2 arg n m)) := by
  have S1 : Sat W0 (w.alloc (.cells #[.int .i64 2, .int .i64 arg] 68)) (Rc p m :: blk w.heap.size [.int .i64 2, .int .i64 arg] 68 :: L) := (S.alloc [.int .i64 2, .int .i64 arg] 68).sel [1]
  obtain ⟨ao, cap, S2⟩ := Rc_open.1 S1
  have h := hm.len
  have c22 := (rc_at h S2).st
  have hf : ¬ (m.st.length : Int) < (takesP 2 : Int) := by omega
  have HE := Lib.hid (doesP_act (n := n) (arg := arg) (m := m) hfew (by decide) (by decide))
  have hm1 : RM.Ok { m with pc := m.pc + 1 } := ⟨hm.len, hm.st, hm.i0, hm.i1, hm.seed, hm.frame, hm.stl⟩
  have HT : Hid (takesP 2 = takesP 2) := rfl
  generalize htk : takesP 2 = tk at hf hfew HT
  have htk' := Lib.hid htk
  clear hfew htk HT
  go_enter Try.func26, Try.ntmps26
  go_wp2_with fail
  go_quiet (first | (go_at_call 33; exact Calls.quiet_of_same ((takes_any _ 2 ⟨by decide, by decide⟩).mono fun _ _ ⟨a, b⟩ => ⟨a.trans (by rw [htk'.out]), b.symm⟩)))
  have S3 := S1.drewN nq
  generalize (w.alloc (.cells #[.int .i64 2, .int .i64 arg] 68)).drewN nq = w3 at S3 ⊢
  generalize w.heap.size = y at S3 ⊢
  obtain ⟨ao3, cap3, S4⟩ := Rc_open.1 S3
  have hA := rc_at h S4
  have xc := S3.cell 1 rfl 0
  have xa := S3.cell 1 rfl 1
  simp only [List.getElem?_cons_zero, List.getElem?_cons_succ] at xc xa
  have c23 := hA.pc
  have f23 := hA.free 23
  have S5 := Rc_open.2 ⟨ao3, cap3, rc_pc h S4 (m.pc + 1)⟩
  clear hA
  go_upto_block 0 with fail
  generalize w3.setCell ⟨p, 23, none⟩ (.int .i64 (m.pc + 1)) = w6 at S5 ⊢
  obtain ⟨m1, hm1e⟩ : ∃ m1 : RM, m1 = { m with pc := m.pc + 1 } := ⟨_, rfl⟩
  have S6 : Sat W0 w6 (Rc p m1 :: blk y [.int .i64 2, .int .i64 arg] 68 :: L) := by rw [hm1e]; exact S5
  rw [← hm1e] at hm1 HE
  clear S5 S4 S3 S2 S1 S c22 c23 f23 xc xa hf hpc h hm hm1e
  have xc := S6.cell 1 rfl 0
  have xa := S6.cell 1 rfl 1
  simp only [List.getElem?_cons_zero, List.getElem?_cons_succ] at xc xa
  have hl := hm1.len
  go_cut [] (fun wx => ∃ m2, m2 = actP 2 arg m1 ∧ Sat W0 wx (Rc p m2 :: blk y [.int .i64 2, .int .i64 arg] 68 :: L))
  case first =>
    clear HE
    have ha : 0 ≤ arg ∧ arg ≤ 15 := by rw [may2] at hmay; exact of_decide_eq_true hmay
    obtain ⟨k, rfl⟩ : ∃ k : Nat, arg = (k : Int) := ⟨arg.toNat, by omega⟩
    have k0 : (0 : Int) ≤ (k : Int) := Int.natCast_nonneg _
    have k1 : (k : Int) < 16 := by omega
    obtain ⟨ao2, cap2, S7⟩ := Rc_open.1 S6.drew
    have c1 := (rc_at hl S7).cells k (by omega)
    have HV : Hid (actP 2 k m1 = m1.push (m1.s.cells[k]?.getD 0)) := rfl
    generalize m1.s.cells[k]?.getD 0 = v at c1 HV
    go_wp2_with fail
    go_region_with (go_at_call 34; refine (rpush_any hl S6.drew v).mono ?_; rintro e w' ⟨rfl, S8⟩)
    all_goals
      go_wp2_with fail
      go_meet
      exact ⟨_, rfl, by rw [HV.out]; exact S8⟩
  case rest =>
    obtain ⟨m2, hm2, S7⟩ := hcut
    have h2 : m2.s.cells.length = 16 := by rw [hm2]; exact actP_len hl
    rw [← hm2] at HE
    obtain ⟨ao4, cap4, S8⟩ := Rc_open.1 S7
    have hB := rc_at h2 S8
    have c25 := hB.bad
    have c23 := hB.pc
    clear hB hm2
    cases hbd : m2.bad with
    | true =>
      rw [hbd] at c25 HE
      go_wp2_with fail
      go_ret
      unfold DoesPost
      rw [HE.out]
      exact ⟨rfl, (S7.sel [1]).tail⟩
    | false =>
      rw [hbd] at c25 HE
      go_wp2_with fail
      go_ret
      unfold DoesPost
      rw [HE.out]
      exact ⟨by simp, (S7.sel [1]).tail⟩

set_option maxRecDepth 100000 in
set_option maxHeartbeats 6400000 in
theorem does_op15 {W0 w : World} {L : List Asn} {p : Nat} {m : RM} (S : Sat W0 w (Rc p m :: L)) (hm : RM.Ok m) (hpc : 0 ≤ m.pc ∧ m.pc ≤ 300) {arg : Int} {n : Nat} (hmay : mayP 15 arg n = true) (hfew : ¬ m.st.length < takesP 15) :
    Calls Try.prog 26 #[.pointer (some ⟨p, 0, none⟩), .agg #[.int .i64 15, .int .i64 arg], .int .i64 n] w (DoesPost W0 L p (doesP 15 arg n m)) := by
  have S1 : Sat W0 (w.alloc (.cells #[.int .i64 15, .int .i64 arg] 68)) (Rc p m :: blk w.heap.size [.int .i64 15, .int .i64 arg] 68 :: L) := (S.alloc [.int .i64 15, .int .i64 arg] 68).sel [1]
  obtain ⟨ao, cap, S2⟩ := Rc_open.1 S1
  have h := hm.len
  have c22 := (rc_at h S2).st
  have hf : ¬ (m.st.length : Int) < (takesP 15 : Int) := by omega
  have HE := Lib.hid (doesP_act (n := n) (arg := arg) (m := m) hfew (by decide) (by decide))
  have hm1 : RM.Ok { m with pc := m.pc + 1 } := ⟨hm.len, hm.st, hm.i0, hm.i1, hm.seed, hm.frame, hm.stl⟩
  have HT : Hid (takesP 15 = takesP 15) := rfl
  generalize htk : takesP 15 = tk at hf hfew HT
  have htk' := Lib.hid htk
  clear hfew htk HT
  go_enter Try.func26, Try.ntmps26
  go_wp2_with fail
  go_quiet (first | (go_at_call 33; exact Calls.quiet_of_same ((takes_any _ 15 ⟨by decide, by decide⟩).mono fun _ _ ⟨a, b⟩ => ⟨a.trans (by rw [htk'.out]), b.symm⟩)))
  have S3 := S1.drewN nq
  generalize (w.alloc (.cells #[.int .i64 15, .int .i64 arg] 68)).drewN nq = w3 at S3 ⊢
  generalize w.heap.size = y at S3 ⊢
  obtain ⟨ao3, cap3, S4⟩ := Rc_open.1 S3
  have hA := rc_at h S4
  have xc := S3.cell 1 rfl 0
  have xa := S3.cell 1 rfl 1
  simp only [List.getElem?_cons_zero, List.getElem?_cons_succ] at xc xa
  have c23 := hA.pc
  have f23 := hA.free 23
  have S5 := Rc_open.2 ⟨ao3, cap3, rc_pc h S4 (m.pc + 1)⟩
  clear hA
  go_upto_block 0 with fail
  generalize w3.setCell ⟨p, 23, none⟩ (.int .i64 (m.pc + 1)) = w6 at S5 ⊢
  obtain ⟨m1, hm1e⟩ : ∃ m1 : RM, m1 = { m with pc := m.pc + 1 } := ⟨_, rfl⟩
  have S6 : Sat W0 w6 (Rc p m1 :: blk y [.int .i64 15, .int .i64 arg] 68 :: L) := by rw [hm1e]; exact S5
  rw [← hm1e] at hm1 HE
  clear S5 S4 S3 S2 S1 S c22 c23 f23 xc xa hf hpc h hm hm1e
  have xc := S6.cell 1 rfl 0
  have xa := S6.cell 1 rfl 1
  simp only [List.getElem?_cons_zero, List.getElem?_cons_succ] at xc xa
  have hl := hm1.len
  go_cut [] (fun wx => ∃ m2, m2 = actP 15 arg m1 ∧ Sat W0 wx (Rc p m2 :: blk y [.int .i64 15, .int .i64 arg] 68 :: L))
  case first =>
    clear HE
    obtain ⟨v, m', hp⟩ : ∃ v m', m1.pop = (v, m') := ⟨_, _, rfl⟩
    have HV : Hid (actP 15 arg m1 = m') := by show _ = _; show m1.pop.2 = _; rw [hp]
    have HP := Lib.hid hp
    clear hp
    go_wp2_with (go_at_call 35; refine (rpop_any hl S6 HP.out).mono ?_; rintro e w' ⟨rfl, S7⟩)
    go_meet
    exact ⟨_, rfl, by rw [HV.out]; exact S7⟩
  case rest =>
    obtain ⟨m2, hm2, S7⟩ := hcut
    have h2 : m2.s.cells.length = 16 := by rw [hm2]; exact actP_len hl
    rw [← hm2] at HE
    obtain ⟨ao4, cap4, S8⟩ := Rc_open.1 S7
    have hB := rc_at h2 S8
    have c25 := hB.bad
    have c23 := hB.pc
    clear hB hm2
    cases hbd : m2.bad with
    | true =>
      rw [hbd] at c25 HE
      go_wp2_with fail
      go_ret
      unfold DoesPost
      rw [HE.out]
      exact ⟨rfl, (S7.sel [1]).tail⟩
    | false =>
      rw [hbd] at c25 HE
      go_wp2_with fail
      go_ret
      unfold DoesPost
      rw [HE.out]
      exact ⟨by simp, (S7.sel [1]).tail⟩

end Go.Proofs.Ytpcffejanlokiaa
