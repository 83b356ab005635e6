/-
  Chapter 10's document: some of the instructions done.
-/
import Derived.Test.YtpcffejanlokiaaVmWz
namespace Go.Proofs.Ytpcffejanlokiaa
open Go.RowKit Go.Sep Go.Vm
set_option linter.unusedSimpArgs false
set_option linter.unusedVariables false

set_option maxRecDepth 100000 in
set_option maxHeartbeats 6400000 in
theorem does_two {W0 w : World} {L : List Asn} {p : Nat} {m : RM} (S : Sat W0 w (Rc p m :: L)) (hm : RM.Ok m) (hpc : 0 ≤ m.pc ∧ m.pc ≤ 300) {op arg : Int} (e : 4 ≤ op ∧ op ≤ 11) {n : Nat} (hmay : mayP op arg n = true) (hfew : ¬ m.st.length < takesP op) :
    Calls Try.prog 26 #[.pointer (some ⟨p, 0, none⟩), .agg #[.int .i64 op, .int .i64 arg], .int .i64 n] w (DoesPost W0 L p (doesP op arg n m)) := by
  have S1 : Sat W0 (w.alloc (.cells #[.int .i64 op, .int .i64 arg] 68)) (Rc p m :: blk w.heap.size [.int .i64 op, .int .i64 arg] 68 :: L) := (S.alloc [.int .i64 op, .int .i64 arg] 68).sel [1]
  obtain ⟨ao, cap, S2⟩ := Rc_open.1 S1
  have h := hm.len
  have c22 := (rc_at h S2).st
  have hf : ¬ (m.st.length : Int) < (takesP op : Int) := by omega
  have HE := Lib.hid (doesP_act (n := n) (arg := arg) (m := m) hfew (by omega) (by omega))
  have hm1 : RM.Ok { m with pc := m.pc + 1 } := ⟨hm.len, hm.st, hm.i0, hm.i1, hm.seed, hm.frame, hm.stl⟩
  have HT : Hid (takesP op = takesP op) := rfl
  generalize htk : takesP op = tk at hf hfew HT
  have htk' := Lib.hid htk
  clear hfew htk HT
  go_enter Try.func26, Try.ntmps26
  go_wp2_with fail
  go_quiet (first | (go_at_call 33; exact Calls.quiet_of_same ((takes_any _ op ⟨by omega, by omega⟩).mono fun _ _ ⟨a, b⟩ => ⟨a.trans (by rw [htk'.out]), b.symm⟩)))
  have S3 := S1.drewN nq
  generalize (w.alloc (.cells #[.int .i64 op, .int .i64 arg] 68)).drewN nq = w3 at S3 ⊢
  generalize w.heap.size = y at S3 ⊢
  obtain ⟨ao3, cap3, S4⟩ := Rc_open.1 S3
  have hA := rc_at h S4
  have xc := S3.cell 1 rfl 0
  have xa := S3.cell 1 rfl 1
  simp only [List.getElem?_cons_zero, List.getElem?_cons_succ] at xc xa
  have c23 := hA.pc
  have f23 := hA.free 23
  have S5 := Rc_open.2 ⟨ao3, cap3, rc_pc h S4 (m.pc + 1)⟩
  clear hA
  go_upto_block 0 with fail
  generalize w3.setCell ⟨p, 23, none⟩ (.int .i64 (m.pc + 1)) = w6 at S5 ⊢
  obtain ⟨m1, hm1e⟩ : ∃ m1 : RM, m1 = { m with pc := m.pc + 1 } := ⟨_, rfl⟩
  have S6 : Sat W0 w6 (Rc p m1 :: blk y [.int .i64 op, .int .i64 arg] 68 :: L) := by rw [hm1e]; exact S5
  rw [← hm1e] at hm1 HE
  clear S5 S4 S3 S2 S1 S c22 c23 f23 xc xa hf hpc h hm hm1e
  have xc := S6.cell 1 rfl 0
  have xa := S6.cell 1 rfl 1
  simp only [List.getElem?_cons_zero, List.getElem?_cons_succ] at xc xa
  have hl := hm1.len
  go_cut [] (fun wx => ∃ m2, m2 = actP op arg m1 ∧ Sat W0 wx (Rc p m2 :: blk y [.int .i64 op, .int .i64 arg] 68 :: L))
  case first =>
    clear HE
    have ha : ∀ m, actP op arg m = m.pop.2.pop.2.push (op2 op m.pop.2.pop.1 m.pop.1) := by
      intro m
      unfold actP
      rw [if_neg (by omega), if_neg (by omega), if_neg (by omega), if_pos (by omega)]
    obtain ⟨v, m', hp⟩ : ∃ v m', m1.pop = (v, m') := ⟨_, _, rfl⟩
    have h1 := rpop_len hl hp
    obtain ⟨u, m'', hq⟩ : ∃ u m'', m'.pop = (u, m'') := ⟨_, _, rfl⟩
    have h2 := rpop_len h1 hq
    have b1 := rpop_val hm1.st hp
    have b2 := rpop_val b1.2 hq
    have HV : Hid (actP op arg m1 = m''.push (op2 op u v)) := by show _ = _; rw [ha, hp, hq]
    have HP := Lib.hid hp
    have HQ := Lib.hid hq
    have bv := b1.1
    have bu := b2.1
    clear hp hq ha b1 b2
    have z1 : (op == 1) = false := by rw [beq_eq_false_iff_ne]; omega
    have z2 : (op == 2) = false := by rw [beq_eq_false_iff_ne]; omega
    have z3 : (op == 3) = false := by rw [beq_eq_false_iff_ne]; omega
    have z12 : (op == 12) = false := by rw [beq_eq_false_iff_ne]; omega
    have z13 : (op == 13) = false := by rw [beq_eq_false_iff_ne]; omega
    have z14 : (op == 14) = false := by rw [beq_eq_false_iff_ne]; omega
    have z15 : (op == 15) = false := by rw [beq_eq_false_iff_ne]; omega
    have z16 : (op == 16) = false := by rw [beq_eq_false_iff_ne]; omega
    have z17 : (op == 17) = false := by rw [beq_eq_false_iff_ne]; omega
    have z18 : (op == 18) = false := by rw [beq_eq_false_iff_ne]; omega
    have z19 : (op == 19) = false := by rw [beq_eq_false_iff_ne]; omega
    have z20 : (op == 20) = false := by rw [beq_eq_false_iff_ne]; omega
    have z21 : (op == 21) = false := by rw [beq_eq_false_iff_ne]; omega
    have z22 : (op == 22) = false := by rw [beq_eq_false_iff_ne]; omega
    go_wp2_with (first
      | (go_at_call 35; refine (rpop_any h1 S7 HQ.out).mono ?_; rintro e w' ⟨rfl, S8⟩; have x8 := S8.cell 1 rfl 0; simp only [List.getElem?_cons_zero, List.getElem?_cons_succ] at x8)
      | (go_at_call 35; refine (rpop_any hl S6 HP.out).mono ?_; rintro e w' ⟨rfl, S7⟩)
      | (go_at_call 37; refine (rtwo_any _ op u v e bu bv).mono ?_; rintro e' w' ⟨rfl, rfl⟩)
      | (go_at_call 34; refine (rpush_any h2 S8 (op2 op u v)).mono ?_; rintro e w' ⟨rfl, S9⟩))
    go_meet
    exact ⟨_, rfl, by rw [HV.out]; exact S9⟩
  case rest =>
    obtain ⟨m2, hm2, S7⟩ := hcut
    have h2 : m2.s.cells.length = 16 := by rw [hm2]; exact actP_len hl
    rw [← hm2] at HE
    obtain ⟨ao4, cap4, S8⟩ := Rc_open.1 S7
    have hB := rc_at h2 S8
    have c25 := hB.bad
    have c23 := hB.pc
    clear hB hm2
    cases hbd : m2.bad with
    | true =>
      rw [hbd] at c25 HE
      go_wp2_with fail
      go_ret
      unfold DoesPost
      rw [HE.out]
      exact ⟨rfl, (S7.sel [1]).tail⟩
    | false =>
      rw [hbd] at c25 HE
      go_wp2_with fail
      go_ret
      unfold DoesPost
      rw [HE.out]
      exact ⟨by simp, (S7.sel [1]).tail⟩

end Go.Proofs.Ytpcffejanlokiaa
