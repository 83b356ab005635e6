/-
  code: the table of what each op is, made.
-/
import Derived.Laws.Tables
import Derived.Test.YtjdeeloemhjbhaaGreatQVm5

namespace Go.Proofs.YtjdeeloemhjbhaaGreat
open Go.RowKit Go.Sep Go.Vm

theorem wpList_build_to {P : Program} {ops : Array Oper} {rest : List Oper} {o : Oper} {a : Act} {w : World} {Q : Exit → Act → World → Prop} (hg : o.guard = none) (t : TypeId) (parts : Array (Nat × Operand)) (ho : o.op = .build t parts)
    {cells : Array Value} (hc : P.built t (parts.map fun (i, x) => (i, a.eval x)).toList = some cells) (h : wpList P ops Q rest (a.put o.dst (.agg cells)) w) : wpList P ops Q (o :: rest) a w :=
  wpList_build hg t parts ho (by rw [hc]; rfl) (by rw [hc]; exact h)

set_option maxRecDepth 100000 in
set_option maxHeartbeats 2000000 in
theorem table_any {W0 w : World} {L : List Asn} (S : Sat W0 w L) :
    Calls Tryz.prog 56 #[] w fun e w' => ∃ q0 qa qb qc qd, e = .returned (.agg (tbl q0 qa qb qc qd).toArray) ∧ Sat W0 w' (num1 qd 2 :: num1 qc 1 :: num1 qb 15 :: num1 qa 15 :: num1 q0 0 :: L) := by
  have hz : Tryz.zeroCells120 = tz.toArray := by kernel_rfl
  have S1 : Sat W0 (w.alloc (.cells Tryz.zeroCells120 120)) (blk w.heap.size tz 120 :: L) := by rw [hz]; exact S.alloc tz _
  clear hz
  go_enter Tryz.func56, Tryz.ntmps56
  go_wp2_with (first
    | (refine wpList_build_to (cells := (tbl q0 qa qb qc qd).toArray) rfl 120 _ rfl (by as_aux_lemma => kernel_rfl) ?_)
    | (refine wpList_store_sat (news := tbl q0 qa qb qc qd) (n := 69) rfl 120 _ _ rfl (S6.sel [5]) rfl rfl rfl (by decide) Tryz.sizeT (tbl_one q0 qa qb qc qd) ?_; intro w7 S7)
    | (go_at_call 72; refine (upTo_any S5 2).mono ?_; rintro e w6 ⟨qd, rfl, S6⟩)
    | (go_at_call 72; refine (upTo_any S4 1).mono ?_; rintro e w5 ⟨qc, rfl, S5⟩)
    | (go_at_call 72; refine (upTo_any S3 15).mono ?_; rintro e w4 ⟨qb, rfl, S4⟩)
    | (go_at_call 72; refine (upTo_any S2 15).mono ?_; rintro e w3 ⟨qa, rfl, S3⟩)
    | (go_at_call 72; refine (upTo_any S1 0).mono ?_; rintro e w2 ⟨q0, rfl, S2⟩))
  have S8 : Sat W0 w7 (blk w.heap.size (tbl q0 qa qb qc qd) 120 :: num1 qd 2 :: num1 qc 1 :: num1 qb 15 :: num1 qa 15 :: num1 q0 0 :: L) := S7
  refine bodyPost_ret (results_cell_sat rfl _ S8 rfl Tryz.underlying120 rfl Tryz.sizeT) rfl ⟨q0, qa, qb, qc, qd, rfl, S8.tail⟩
end Go.Proofs.YtjdeeloemhjbhaaGreat
