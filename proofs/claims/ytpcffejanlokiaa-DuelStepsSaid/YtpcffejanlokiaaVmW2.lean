/-
  Chapter 10's document: an instruction done, any.
-/
import Derived.Test.YtpcffejanlokiaaVmWa
import Derived.Test.YtpcffejanlokiaaVmWb
import Derived.Test.YtpcffejanlokiaaVmWc
import Derived.Test.YtpcffejanlokiaaVmWd
import Derived.Test.YtpcffejanlokiaaVmWe
import Derived.Test.YtpcffejanlokiaaVmWf
namespace Go.Proofs.Ytpcffejanlokiaa
open Go.RowKit Go.Sep Go.Vm
set_option linter.unusedSimpArgs false

set_option maxRecDepth 100000 in
set_option maxHeartbeats 6400000 in
theorem does_any {W0 w : World} {L : List Asn} {p : Nat} {m : RM} (S : Sat W0 w (Rc p m :: L)) (hm : RM.Ok m) (hpc : 0 ≤ m.pc ∧ m.pc ≤ 300) {op arg : Int} {n : Nat} (hmay : mayP op arg n = true) (hop : 1 ≤ op ∧ op ≤ 22) :
    Calls Try.prog 26 #[.pointer (some ⟨p, 0, none⟩), .agg #[.int .i64 op, .int .i64 arg], .int .i64 n] w (DoesPost W0 L p (doesP op arg n m)) := by
  have S1 : Sat W0 (w.alloc (.cells #[.int .i64 op, .int .i64 arg] 68)) (Rc p m :: blk w.heap.size [.int .i64 op, .int .i64 arg] 68 :: L) := (S.alloc [.int .i64 op, .int .i64 arg] 68).sel [1]
  obtain ⟨ao, cap, S2⟩ := Rc_open.1 S1
  have h := hm.len
  have c22 := (rc_at h S2).st
  by_cases hfew : m.st.length < takesP op
  · have hf : (m.st.length : Int) < (takesP op : Int) := by omega
    have HE := Lib.hid (doesP_few (n := n) (arg := arg) hfew)
    clear hfew
    go_enter Try.func26, Try.ntmps26
    go_wp2_with fail
    go_quiet (first | (go_at_call 33; exact Calls.quiet_of_same ((takes_any _ op hop).mono fun _ _ ⟨a, b⟩ => ⟨a, b.symm⟩)))
    have S3 := S1.drewN nq
    generalize (w.alloc (.cells #[.int .i64 op, .int .i64 arg] 68)).drewN nq = w3 at S3 ⊢
    generalize w.heap.size = y at S3 ⊢
    obtain ⟨ao3, cap3, S4⟩ := Rc_open.1 S3
    have hA := rc_at h S4
    have xc := S3.cell 1 rfl 0
    have xa := S3.cell 1 rfl 1
    simp only [List.getElem?_cons_zero, List.getElem?_cons_succ] at xc xa
    have c25 := hA.bad
    have f25 := hA.free 25
    have S5 := rc_bad h S4 true
    clear hA
    go_wp2_with fail
    go_ret
    unfold DoesPost
    rw [HE.out]
    exact ⟨rfl, ((Rc_open.2 ⟨ao3, cap3, S5⟩).sel [1]).tail⟩
  have hf : ¬ (m.st.length : Int) < (takesP op : Int) := by omega
  by_cases h20 : op = 20
  · subst h20
    have HE := Lib.hid (doesP_win (n := n) (arg := arg) (m := m))
    clear hfew
    go_enter Try.func26, Try.ntmps26
    go_wp2_with fail
    go_quiet (first | (go_at_call 33; exact Calls.quiet_of_same ((takes_any _ 20 hop).mono fun _ _ ⟨a, b⟩ => ⟨a, b.symm⟩)))
    have S3 := S1.drewN nq
    generalize (w.alloc (.cells #[.int .i64 20, .int .i64 arg] 68)).drewN nq = w3 at S3 ⊢
    generalize w.heap.size = y at S3 ⊢
    obtain ⟨ao3, cap3, S4⟩ := Rc_open.1 S3
    have hA := rc_at h S4
    have xc := S3.cell 1 rfl 0
    have xa := S3.cell 1 rfl 1
    simp only [List.getElem?_cons_zero, List.getElem?_cons_succ] at xc xa
    have c23 := hA.pc
    have f23 := hA.free 23
    have c24 := hA.won
    have f24 := hA.free 24
    have S5 := rc_won (m := { m with pc := m.pc + 1 }) h (rc_pc h S4 (m.pc + 1)) arg
    clear hA
    go_wp2_with fail
    go_ret
    unfold DoesPost
    rw [HE.out]
    exact ⟨rfl, ((Rc_open.2 ⟨ao3, cap3, S5⟩).sel [1]).tail⟩
  by_cases h22 : op = 22
  · subst h22
    have HE := Lib.hid (doesP_halt (n := n) (arg := arg) (m := m))
    clear hfew
    go_enter Try.func26, Try.ntmps26
    go_wp2_with fail
    go_quiet (first | (go_at_call 33; exact Calls.quiet_of_same ((takes_any _ 22 hop).mono fun _ _ ⟨a, b⟩ => ⟨a, b.symm⟩)))
    have S3 := S1.drewN nq
    generalize (w.alloc (.cells #[.int .i64 22, .int .i64 arg] 68)).drewN nq = w3 at S3 ⊢
    generalize w.heap.size = y at S3 ⊢
    obtain ⟨ao3, cap3, S4⟩ := Rc_open.1 S3
    have hA := rc_at h S4
    have xc := S3.cell 1 rfl 0
    have xa := S3.cell 1 rfl 1
    simp only [List.getElem?_cons_zero, List.getElem?_cons_succ] at xc xa
    have c23 := hA.pc
    have f23 := hA.free 23
    have S5 := rc_pc h S4 (m.pc + 1)
    clear hA
    go_wp2_with fail
    go_ret
    unfold DoesPost
    rw [HE.out]
    exact ⟨rfl, ((Rc_open.2 ⟨ao3, cap3, S5⟩).sel [1]).tail⟩
  have hc : op = 1 ∨ op = 2 ∨ op = 3 ∨ (4 ≤ op ∧ op ≤ 11) ∨ op = 12 ∨ op = 13 ∨ op = 14 ∨ op = 15 ∨ op = 16 ∨ op = 17 ∨ op = 18 ∨ op = 19 ∨ op = 21 := by omega
  clear S1 S2 c22 hf
  rcases hc with rfl | rfl | rfl | e | rfl | rfl | rfl | rfl | rfl | rfl | rfl | rfl | rfl
  · exact does_op1 S hm hpc hmay hfew
  · exact does_op2 S hm hpc hmay hfew
  · exact does_op3 S hm hpc hmay hfew
  · exact does_two S hm hpc e hmay hfew
  · exact does_op12 S hm hpc hmay hfew
  · exact does_op13 S hm hpc hmay hfew
  · exact does_op14 S hm hpc hmay hfew
  · exact does_op15 S hm hpc hmay hfew
  · exact does_op16 S hm hpc hmay hfew
  · exact does_op17 S hm hpc hmay hfew
  · exact does_op18 S hm hpc hmay hfew
  · exact does_op19 S hm hpc hmay hfew
  · exact does_op21 S hm hpc hmay hfew
end Go.Proofs.Ytpcffejanlokiaa
