/-
  Chapter 10's document: some of the instructions done.
-/
import Derived.Test.YtpcffejanlokiaaVmWz
namespace Go.Proofs.Ytpcffejanlokiaa
open Go.RowKit Go.Sep Go.Vm
set_option linter.unusedSimpArgs false
set_option linter.unusedVariables false

set_option maxRecDepth 100000 in
set_option maxHeartbeats 6400000 in
theorem does_op12 {W0 w : World} {L : List Asn} {p : Nat} {m : RM} (S : Sat W0 w (Rc p m :: L)) (hm : RM.Ok m) (hpc : 0 ≤ m.pc ∧ m.pc ≤ 300) {arg : Int} {n : Nat} (hmay : mayP 12 arg n = true) (hfew : ¬ m.st.length < takesP 12) :
    Calls Try.prog 26 #[.pointer (some ⟨p, 0, none⟩), .agg #[.int .i64 12, .int .i64 arg], .int .i64 n] w (DoesPost W0 L p (doesP 12 arg n m)) := by
  have S1 : Sat W0 (w.alloc (.cells #[.int .i64 12, .int .i64 arg] 68)) (Rc p m :: blk w.heap.size [.int .i64 12, .int .i64 arg] 68 :: L) := (S.alloc [.int .i64 12, .int .i64 arg] 68).sel [1]
  obtain ⟨ao, cap, S2⟩ := Rc_open.1 S1
  have h := hm.len
  have c22 := (rc_at h S2).st
  have hf : ¬ (m.st.length : Int) < (takesP 12 : Int) := by omega
  have HE := Lib.hid (doesP_act (n := n) (arg := arg) (m := m) hfew (by decide) (by decide))
  have hm1 : RM.Ok { m with pc := m.pc + 1 } := ⟨hm.len, hm.st, hm.i0, hm.i1, hm.seed, hm.frame, hm.stl⟩
  have HT : Hid (takesP 12 = takesP 12) := rfl
  generalize htk : takesP 12 = tk at hf hfew HT
  have htk' := Lib.hid htk
  clear hfew htk HT
  go_enter Try.func26, Try.ntmps26
  go_wp2_with fail
  go_quiet (first | (go_at_call 33; exact Calls.quiet_of_same ((takes_any _ 12 ⟨by decide, by decide⟩).mono fun _ _ ⟨a, b⟩ => ⟨a.trans (by rw [htk'.out]), b.symm⟩)))
  have S3 := S1.drewN nq
  generalize (w.alloc (.cells #[.int .i64 12, .int .i64 arg] 68)).drewN nq = w3 at S3 ⊢
  generalize w.heap.size = y at S3 ⊢
  obtain ⟨ao3, cap3, S4⟩ := Rc_open.1 S3
  have hA := rc_at h S4
  have xc := S3.cell 1 rfl 0
  have xa := S3.cell 1 rfl 1
  simp only [List.getElem?_cons_zero, List.getElem?_cons_succ] at xc xa
  have c23 := hA.pc
  have f23 := hA.free 23
  have S5 := Rc_open.2 ⟨ao3, cap3, rc_pc h S4 (m.pc + 1)⟩
  clear hA
  go_upto_block 0 with fail
  generalize w3.setCell ⟨p, 23, none⟩ (.int .i64 (m.pc + 1)) = w6 at S5 ⊢
  obtain ⟨m1, hm1e⟩ : ∃ m1 : RM, m1 = { m with pc := m.pc + 1 } := ⟨_, rfl⟩
  have S6 : Sat W0 w6 (Rc p m1 :: blk y [.int .i64 12, .int .i64 arg] 68 :: L) := by rw [hm1e]; exact S5
  rw [← hm1e] at hm1 HE
  clear S5 S4 S3 S2 S1 S c22 c23 f23 xc xa hf hpc h hm hm1e
  have xc := S6.cell 1 rfl 0
  have xa := S6.cell 1 rfl 1
  simp only [List.getElem?_cons_zero, List.getElem?_cons_succ] at xc xa
  have hl := hm1.len
  go_cut [] (fun wx => ∃ m2, m2 = actP 12 arg m1 ∧ Sat W0 wx (Rc p m2 :: blk y [.int .i64 12, .int .i64 arg] 68 :: L))
  case first =>
    clear HE
    obtain ⟨v, m', hp⟩ : ∃ v m', m1.pop = (v, m') := ⟨_, _, rfl⟩
    have h1 := rpop_len hl hp
    have HV : Hid (actP 12 arg m1 = m'.push (truth (decide (v = 0)))) := by show _ = _; show m1.pop.2.push _ = _; rw [hp]
    have HP := Lib.hid hp
    clear hp
    by_cases hv : v = 0
    · subst hv
      rw [decide_eq_true rfl] at HV
      go_wp2_with (first
        | (go_at_call 35; refine (rpop_any hl S6 HP.out).mono ?_; rintro e w' ⟨rfl, S7⟩)
        | (go_at_call 36; refine (rtruth_any _ true).mono ?_; rintro e w' ⟨rfl, rfl⟩)
        | (go_at_call 34; refine (rpush_any h1 S7 (truth true)).mono ?_; rintro e w' ⟨rfl, S8⟩))
      go_meet
      exact ⟨_, rfl, by rw [HV.out]; exact S8⟩
    · have hz : (v == 0) = false := by simpa using hv
      rw [decide_eq_false hv] at HV
      go_wp2_with (first
        | (go_at_call 35; refine (rpop_any hl S6 HP.out).mono ?_; rintro e w' ⟨rfl, S7⟩)
        | (go_at_call 36; refine (rtruth_any _ false).mono ?_; rintro e w' ⟨rfl, rfl⟩)
        | (go_at_call 34; refine (rpush_any h1 S7 (truth false)).mono ?_; rintro e w' ⟨rfl, S8⟩))
      go_meet
      exact ⟨_, rfl, by rw [HV.out]; exact S8⟩
  case rest =>
    obtain ⟨m2, hm2, S7⟩ := hcut
    have h2 : m2.s.cells.length = 16 := by rw [hm2]; exact actP_len hl
    rw [← hm2] at HE
    obtain ⟨ao4, cap4, S8⟩ := Rc_open.1 S7
    have hB := rc_at h2 S8
    have c25 := hB.bad
    have c23 := hB.pc
    clear hB hm2
    cases hbd : m2.bad with
    | true =>
      rw [hbd] at c25 HE
      go_wp2_with fail
      go_ret
      unfold DoesPost
      rw [HE.out]
      exact ⟨rfl, (S7.sel [1]).tail⟩
    | false =>
      rw [hbd] at c25 HE
      go_wp2_with fail
      go_ret
      unfold DoesPost
      rw [HE.out]
      exact ⟨by simp, (S7.sel [1]).tail⟩

set_option maxRecDepth 100000 in
set_option maxHeartbeats 6400000 in
theorem does_op13 {W0 w : World} {L : List Asn} {p : Nat} {m : RM} (S : Sat W0 w (Rc p m :: L)) (hm : RM.Ok m) (hpc : 0 ≤ m.pc ∧ m.pc ≤ 300) {arg : Int} {n : Nat} (hmay : mayP 13 arg n = true) (hfew : ¬ m.st.length < takesP 13) :
    Calls Try.prog 26 #[.pointer (some ⟨p, 0, none⟩), .agg #[.int .i64 13, .int .i64 arg], .int .i64 n] w (DoesPost W0 L p (doesP 13 arg n m)) := by
  have S1 : Sat W0 (w.alloc (.cells #[.int .i64 13, .int .i64 arg] 68)) (Rc p m :: blk w.heap.size [.int .i64 13, .int .i64 arg] 68 :: L) := (S.alloc [.int .i64 13, .int .i64 arg] 68).sel [1]
  obtain ⟨ao, cap, S2⟩ := Rc_open.1 S1
  have h := hm.len
  have c22 := (rc_at h S2).st
  have hf : ¬ (m.st.length : Int) < (takesP 13 : Int) := by omega
  have HE := Lib.hid (doesP_act (n := n) (arg := arg) (m := m) hfew (by decide) (by decide))
  have hm1 : RM.Ok { m with pc := m.pc + 1 } := ⟨hm.len, hm.st, hm.i0, hm.i1, hm.seed, hm.frame, hm.stl⟩
  have HT : Hid (takesP 13 = takesP 13) := rfl
  generalize htk : takesP 13 = tk at hf hfew HT
  have htk' := Lib.hid htk
  clear hfew htk HT
  go_enter Try.func26, Try.ntmps26
  go_wp2_with fail
  go_quiet (first | (go_at_call 33; exact Calls.quiet_of_same ((takes_any _ 13 ⟨by decide, by decide⟩).mono fun _ _ ⟨a, b⟩ => ⟨a.trans (by rw [htk'.out]), b.symm⟩)))
  have S3 := S1.drewN nq
  generalize (w.alloc (.cells #[.int .i64 13, .int .i64 arg] 68)).drewN nq = w3 at S3 ⊢
  generalize w.heap.size = y at S3 ⊢
  obtain ⟨ao3, cap3, S4⟩ := Rc_open.1 S3
  have hA := rc_at h S4
  have xc := S3.cell 1 rfl 0
  have xa := S3.cell 1 rfl 1
  simp only [List.getElem?_cons_zero, List.getElem?_cons_succ] at xc xa
  have c23 := hA.pc
  have f23 := hA.free 23
  have S5 := Rc_open.2 ⟨ao3, cap3, rc_pc h S4 (m.pc + 1)⟩
  clear hA
  go_upto_block 0 with fail
  generalize w3.setCell ⟨p, 23, none⟩ (.int .i64 (m.pc + 1)) = w6 at S5 ⊢
  obtain ⟨m1, hm1e⟩ : ∃ m1 : RM, m1 = { m with pc := m.pc + 1 } := ⟨_, rfl⟩
  have S6 : Sat W0 w6 (Rc p m1 :: blk y [.int .i64 13, .int .i64 arg] 68 :: L) := by rw [hm1e]; exact S5
  rw [← hm1e] at hm1 HE
  clear S5 S4 S3 S2 S1 S c22 c23 f23 xc xa hf hpc h hm hm1e
  have xc := S6.cell 1 rfl 0
  have xa := S6.cell 1 rfl 1
  simp only [List.getElem?_cons_zero, List.getElem?_cons_succ] at xc xa
  have hl := hm1.len
  go_cut [] (fun wx => ∃ m2, m2 = actP 13 arg m1 ∧ Sat W0 wx (Rc p m2 :: blk y [.int .i64 13, .int .i64 arg] 68 :: L))
  case first =>
    clear HE
    obtain ⟨v, m', hp⟩ : ∃ v m', m1.pop = (v, m') := ⟨_, _, rfl⟩
    have h1 := rpop_len hl hp
    have h2 := rpush_len h1 v
    have HV : Hid (actP 13 arg m1 = (m'.push v).push v) := by show _ = _; show (m1.pop.2.push m1.pop.1).push m1.pop.1 = _; rw [hp]
    have HP := Lib.hid hp
    clear hp
    go_wp2_with (first
      | (go_at_call 34; refine (rpush_any h2 S8 v).mono ?_; rintro e w' ⟨rfl, S9⟩)
      | (go_at_call 34; refine (rpush_any h1 S7 v).mono ?_; rintro e w' ⟨rfl, S8⟩)
      | (go_at_call 35; refine (rpop_any hl S6 HP.out).mono ?_; rintro e w' ⟨rfl, S7⟩))
    go_meet
    exact ⟨_, rfl, by rw [HV.out]; exact S9⟩
  case rest =>
    obtain ⟨m2, hm2, S7⟩ := hcut
    have h2 : m2.s.cells.length = 16 := by rw [hm2]; exact actP_len hl
    rw [← hm2] at HE
    obtain ⟨ao4, cap4, S8⟩ := Rc_open.1 S7
    have hB := rc_at h2 S8
    have c25 := hB.bad
    have c23 := hB.pc
    clear hB hm2
    cases hbd : m2.bad with
    | true =>
      rw [hbd] at c25 HE
      go_wp2_with fail
      go_ret
      unfold DoesPost
      rw [HE.out]
      exact ⟨rfl, (S7.sel [1]).tail⟩
    | false =>
      rw [hbd] at c25 HE
      go_wp2_with fail
      go_ret
      unfold DoesPost
      rw [HE.out]
      exact ⟨by simp, (S7.sel [1]).tail⟩

set_option maxRecDepth 100000 in
set_option maxHeartbeats 6400000 in
theorem does_op19 {W0 w : World} {L : List Asn} {p : Nat} {m : RM} (S : Sat W0 w (Rc p m :: L)) (hm : RM.Ok m) (hpc : 0 ≤ m.pc ∧ m.pc ≤ 300) {arg : Int} {n : Nat} (hmay : mayP 19 arg n = true) (hfew : ¬ m.st.length < takesP 19) :
    Calls Try.prog 26 #[.pointer (some ⟨p, 0, none⟩), .agg #[.int .i64 19, .int .i64 arg], .int .i64 n] w (DoesPost W0 L p (doesP 19 arg n m)) := by
  have S1 : Sat W0 (w.alloc (.cells #[.int .i64 19, .int .i64 arg] 68)) (Rc p m :: blk w.heap.size [.int .i64 19, .int .i64 arg] 68 :: L) := (S.alloc [.int .i64 19, .int .i64 arg] 68).sel [1]
  obtain ⟨ao, cap, S2⟩ := Rc_open.1 S1
  have h := hm.len
  have c22 := (rc_at h S2).st
  have hf : ¬ (m.st.length : Int) < (takesP 19 : Int) := by omega
  have HE := Lib.hid (doesP_act (n := n) (arg := arg) (m := m) hfew (by decide) (by decide))
  have hm1 : RM.Ok { m with pc := m.pc + 1 } := ⟨hm.len, hm.st, hm.i0, hm.i1, hm.seed, hm.frame, hm.stl⟩
  have HT : Hid (takesP 19 = takesP 19) := rfl
  generalize htk : takesP 19 = tk at hf hfew HT
  have htk' := Lib.hid htk
  clear hfew htk HT
  go_enter Try.func26, Try.ntmps26
  go_wp2_with fail
  go_quiet (first | (go_at_call 33; exact Calls.quiet_of_same ((takes_any _ 19 ⟨by decide, by decide⟩).mono fun _ _ ⟨a, b⟩ => ⟨a.trans (by rw [htk'.out]), b.symm⟩)))
  have S3 := S1.drewN nq
  generalize (w.alloc (.cells #[.int .i64 19, .int .i64 arg] 68)).drewN nq = w3 at S3 ⊢
  generalize w.heap.size = y at S3 ⊢
  obtain ⟨ao3, cap3, S4⟩ := Rc_open.1 S3
  have hA := rc_at h S4
  have xc := S3.cell 1 rfl 0
  have xa := S3.cell 1 rfl 1
  simp only [List.getElem?_cons_zero, List.getElem?_cons_succ] at xc xa
  have c23 := hA.pc
  have f23 := hA.free 23
  have S5 := Rc_open.2 ⟨ao3, cap3, rc_pc h S4 (m.pc + 1)⟩
  clear hA
  go_upto_block 0 with fail
  generalize w3.setCell ⟨p, 23, none⟩ (.int .i64 (m.pc + 1)) = w6 at S5 ⊢
  obtain ⟨m1, hm1e⟩ : ∃ m1 : RM, m1 = { m with pc := m.pc + 1 } := ⟨_, rfl⟩
  have S6 : Sat W0 w6 (Rc p m1 :: blk y [.int .i64 19, .int .i64 arg] 68 :: L) := by rw [hm1e]; exact S5
  rw [← hm1e] at hm1 HE
  clear S5 S4 S3 S2 S1 S c22 c23 f23 xc xa hf hpc h hm hm1e
  have xc := S6.cell 1 rfl 0
  have xa := S6.cell 1 rfl 1
  simp only [List.getElem?_cons_zero, List.getElem?_cons_succ] at xc xa
  have hl := hm1.len
  go_cut [] (fun wx => ∃ m2, m2 = actP 19 arg m1 ∧ Sat W0 wx (Rc p m2 :: blk y [.int .i64 19, .int .i64 arg] 68 :: L))
  case first =>
    clear HE
    obtain ⟨v, m', hp⟩ : ∃ v m', m1.pop = (v, m') := ⟨_, _, rfl⟩
    have h1 := rpop_len hl hp
    have HV : Hid (actP 19 arg m1 = if v = 0 then { m' with pc := arg } else m') := by show _ = _; show (if m1.pop.1 = 0 then _ else _) = _; rw [hp]
    have HP := Lib.hid hp
    clear hp
    by_cases hv : v = 0
    · subst hv
      rw [if_pos rfl] at HV
      go_wp2_with (go_at_call 35; refine (rpop_any hl S6 HP.out).mono ?_; rintro e w' ⟨rfl, S7⟩; have x7 := S7.cell 1 rfl 1; simp only [List.getElem?_cons_zero, List.getElem?_cons_succ] at x7; obtain ⟨ao2, cap2, S8⟩ := Rc_open.1 S7; have c1 := (rc_at h1 S8).pc; have f1 := (rc_at h1 S8).free 23; have S9 := rc_pc h1 S8 arg)
      go_meet
      exact ⟨_, rfl, by rw [HV.out]; exact Rc_open.2 ⟨ao2, cap2, S9⟩⟩
    · have hz : (v == 0) = false := by simpa using hv
      rw [if_neg hv] at HV
      go_wp2_with (go_at_call 35; refine (rpop_any hl S6 HP.out).mono ?_; rintro e w' ⟨rfl, S7⟩)
      go_meet
      exact ⟨_, rfl, by rw [HV.out]; exact S7⟩
  case rest =>
    obtain ⟨m2, hm2, S7⟩ := hcut
    have h2 : m2.s.cells.length = 16 := by rw [hm2]; exact actP_len hl
    rw [← hm2] at HE
    obtain ⟨ao4, cap4, S8⟩ := Rc_open.1 S7
    have hB := rc_at h2 S8
    have c25 := hB.bad
    have c23 := hB.pc
    clear hB hm2
    cases hbd : m2.bad with
    | true =>
      rw [hbd] at c25 HE
      go_wp2_with fail
      go_ret
      unfold DoesPost
      rw [HE.out]
      exact ⟨rfl, (S7.sel [1]).tail⟩
    | false =>
      rw [hbd] at c25 HE
      go_wp2_with fail
      go_ret
      unfold DoesPost
      rw [HE.out]
      exact ⟨by simp, (S7.sel [1]).tail⟩

end Go.Proofs.Ytpcffejanlokiaa
