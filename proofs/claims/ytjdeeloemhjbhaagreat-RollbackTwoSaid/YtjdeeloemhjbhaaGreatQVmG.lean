/-
  vm: '==' on two states.
-/
import Derived.DeepKeys
import Derived.Laws.StructEq
import Derived.Test.YtjdeeloemhjbhaaGreatQVm1
import Derived.Test.YtjdeeloemhjbhaaGreatQArr

namespace Go.Proofs.YtjdeeloemhjbhaaGreat
open Go.RowKit Go.Sep Go.Vm

theorem len16 {l : List Int} (h : l.length = 16) : ∃ c0 c1 c2 c3 c4 c5 c6 c7 c8 c9 c10 c11 c12 c13 c14 c15, l = [c0, c1, c2, c3, c4, c5, c6, c7, c8, c9, c10, c11, c12, c13, c14, c15] := by
  match l, h with
  | [c0, c1, c2, c3, c4, c5, c6, c7, c8, c9, c10, c11, c12, c13, c14, c15], _ => exact ⟨c0, c1, c2, c3, c4, c5, c6, c7, c8, c9, c10, c11, c12, c13, c14, c15, rfl⟩

theorem step_one {P : Program} (w : World) (d : Nat) {xs ys : Array Value} {f : Field} {fs : List Field} {a b : Value} {r : Bool} (hn : f.name ≠ "_") (hp : P.plainKey f.type = true) (hx : xs[f.offset]? = some a) (hy : ys[f.offset]? = some b)
    (he : (Op.equalIn d f.type a b).run P w = .ok r w) : (Op.eqFields d xs ys (f :: fs)).run P w = if r = true then (Op.eqFields d xs ys fs).run P w else .ok false w := by
  simp only [Op.eqFields, hn, ne_eq, not_false_eq_true, if_true, Sem.run_bind, run_part_plain w hp hx, run_part_plain w hp hy, he, Result.andThen_ok]
  cases r <;> simp
theorem step_arr {P : Program} (w : World) (d : Nat) {xs ys : Array Value} {f : Field} {fs : List Field} {a b : Value} {r : Bool} (hn : f.name ≠ "_") (hx : (part f.type xs f.offset).run P w = .ok a w) (hy : (part f.type ys f.offset).run P w = .ok b w)
    (he : (Op.equalIn d f.type a b).run P w = .ok r w) : (Op.eqFields d xs ys (f :: fs)).run P w = if r = true then (Op.eqFields d xs ys fs).run P w else .ok false w := by
  simp only [Op.eqFields, hn, ne_eq, not_false_eq_true, if_true, Sem.run_bind, hx, hy, he, Result.andThen_ok]
  cases r <;> simp
theorem five {α β : Type} {g : α → β} {l : List α} {a b c d e : β} (h : l.map g = [a, b, c, d, e]) : ∃ x0 x1 x2 x3 x4, l = [x0, x1, x2, x3, x4] ∧ g x0 = a ∧ g x1 = b ∧ g x2 = c ∧ g x3 = d ∧ g x4 = e := by
  match l, h with
  | [x0, x1, x2, x3, x4], h =>
    simp only [List.map_cons, List.map_nil, List.cons.injEq, and_true] at h
    exact ⟨x0, x1, x2, x3, x4, rfl, h⟩
theorem run_equal_state (w : World) {s t : VS} (hs : s.cells.length = 16) (ht : t.cells.length = 16) :
    (Op.equalIn 10000 46 (.agg (svals s).toArray) (.agg (svals t).toArray)).run Tryz.prog w = .ok (decide (s = t)) w := by
  have hf : (Tryz.prog.fieldsOf 46).toList.map (fun f => (decide (f.name ≠ "_"), f.type, f.offset)) = [(true, 3, 0), (true, 44, 1), (true, 25, 17), (true, 4, 18), (true, 3, 19)] := by kernel_rfl
  obtain ⟨f0, f1, f2, f3, f4, hl, h0, h1, h2, h3, h4⟩ := five hf
  clear hf
  simp only [Prod.mk.injEq, decide_eq_true_eq] at h0 h1 h2 h3 h4
  obtain ⟨n0, t0, o0⟩ := h0
  obtain ⟨n1, t1, o1⟩ := h1
  obtain ⟨n2, t2, o2⟩ := h2
  obtain ⟨n3, t3, o3⟩ := h3
  obtain ⟨n4, t4, o4⟩ := h4
  have at0 : ∀ {x : VS}, (svals x).toArray[0]? = some (.int .i64 x.frame) := fun {x} => by rw [List.getElem?_toArray]; rfl
  have at17 : ∀ {x : VS}, x.cells.length = 16 → (svals x).toArray[17]? = some (.int .u32 x.seed) ∧ (svals x).toArray[18]? = some (.bool x.over) ∧ (svals x).toArray[19]? = some (.int .i64 x.winner) ∧ (svals x).toArray.extract 1 17 = (x.cells.map (Value.int .i32)).toArray := by
    intro x hx
    obtain ⟨f, c, d, o, n⟩ := x
    obtain ⟨c0, c1, c2, c3, c4, c5, c6, c7, c8, c9, c10, c11, c12, c13, c14, c15, h1⟩ := len16 (show c.length = 16 from hx)
    subst h1
    exact ⟨rfl, rfl, rfl, rfl⟩
  obtain ⟨i, hi⟩ := info_of_underlying (P := Tryz.prog) Tryz.underlying44
  have pa : ∀ {x : VS}, x.cells.length = 16 → (part f1.type (svals x).toArray f1.offset).run Tryz.prog w = .ok (.agg (x.cells.map (Value.int .i32)).toArray) w := by
    intro x hx
    rw [t1, o1]
    unfold part
    simp only [Sem.run_bind, run_isAgg Tryz.underlying44 rfl, Result.andThen_ok, if_true, run_sizeOf w hi, Sem.run_pure]
    rw [show Tryz.prog.cellsOf 44 = 16 from by kernel_rfl, (at17 hx).2.2.2]
  obtain ⟨j, hj⟩ := info_of_underlying (P := Tryz.prog) Tryz.underlying21
  rw [run_equalIn_agg w 9999 46 _ _ (by kernel_rfl) (by kernel_rfl), hl]
  rw [step_one w 9999 (f := f0) n0 (by rw [t0]; kernel_rfl) (by rw [o0]; exact at0) (by rw [o0]; exact at0) (by rw [t0]; exact run_equalIn_int w 9998 _ .i64 .i64 _ _ (by kernel_rfl))]
  rw [step_arr w 9999 (f := f1) n1 (pa hs) (pa ht) (by rw [t1]; exact run_equalIn_ints w 9997 s.cells t.cells Tryz.underlying44 hj Tryz.underlying21 (by kernel_rfl) hs ht)]
  rw [step_one w 9999 (f := f2) n2 (by rw [t2]; kernel_rfl) (by rw [o2]; exact (at17 hs).1) (by rw [o2]; exact (at17 ht).1) (by rw [t2]; exact run_equalIn_int w 9998 _ .u32 .u32 _ _ (by kernel_rfl))]
  rw [step_one w 9999 (f := f3) n3 (by rw [t3]; kernel_rfl) (by rw [o3]; exact (at17 hs).2.1) (by rw [o3]; exact (at17 ht).2.1) (by rw [t3]; exact run_equalIn_bool w 9998 _ _ _ (by kernel_rfl))]
  rw [step_one w 9999 (f := f4) n4 (by rw [t4]; kernel_rfl) (by rw [o4]; exact (at17 hs).2.2.1) (by rw [o4]; exact (at17 ht).2.2.1) (by rw [t4]; exact run_equalIn_int w 9998 _ .i64 .i64 _ _ (by kernel_rfl))]
  obtain ⟨f, c, d, o, n⟩ := s
  obtain ⟨f', c', d', o', n'⟩ := t
  simp only [Op.eqFields, Sem.run_pure, VS.mk.injEq, beq_iff_eq, decide_eq_true_eq]
  by_cases e0 : f = f' <;> by_cases e1 : c = c' <;> by_cases e2 : d = d' <;> by_cases e3 : o = o' <;> by_cases e4 : n = n' <;> simp [e0, e1, e2, e3, e4]
theorem run_eql_state (w : World) {s t : VS} (hs : s.cells.length = 16) (ht : t.cells.length = 16) :
    (binOp .eql 46 (.agg (svals s).toArray) (.agg (svals t).toArray)).run Tryz.prog w = .ok (.bool (decide (s = t))) w := by
  rw [run_eql_struct, run_equal_state w hs ht]
  rfl
theorem run_neq_state (w : World) {s t : VS} (hs : s.cells.length = 16) (ht : t.cells.length = 16) :
    (binOp .neq 46 (.agg (svals s).toArray) (.agg (svals t).toArray)).run Tryz.prog w = .ok (.bool (!decide (s = t))) w := by
  rw [run_neq_struct, run_equal_state w hs ht]
  rfl
/-- a struct loaded whole under a guard that holds -/
theorem wpList_load_guard {P : Program} {w : World} {ops : Array Oper} {rest : List Oper} {o : Oper} {a : Act} {Q : Exit → Act → World → Prop} (hw : Region.wanted o (yielded ops a.tmps) = true) (ty : TypeId) (x : Operand) (ho : o.op = .load ty x)
    {g off n : Nat} {cs : List Value} (hx : a.eval x = .pointer (some ⟨g, off, none⟩)) (hc : ∀ j, j < n → w.cell? ⟨g, off + j, none⟩ = cs[j]?) (hn : cs.length = n) {d : TypeDesc}
    (hu : P.underlying ty = some d) (hd : aggKind d = true) (hi : (P.info? ty).map (·.size) = some n)
    (h : wpList P ops Q rest (a.put o.dst (.agg cs.toArray)) w) : wpList P ops Q (o :: rest) a w := by
  simp only [wpList, hw, if_true]
  exact Or.inl (wp_load_part ty x ho hx hc hn hu hd hi h)
theorem Sat.whole {W0 w : World} {L : List Asn} {g : Nat} {cs : List Value} {e : TypeId} (S : Sat W0 w (blk g cs e :: L)) (n : Nat) : ∀ j, j < n → w.cell? ⟨g, 0 + j, none⟩ = cs[j]? := by
  intro j _
  rw [S.cell 0 rfl, Nat.zero_add]
/-- '==' on two structs, under a guard that holds -/
theorem wpList_eq_agg {P : Program} {w : World} {ops : Array Oper} {rest : List Oper} {o : Oper} {a : Act} {Q : Exit → Act → World → Prop} (hw : Region.wanted o (yielded ops a.tmps) = true) (op : BinOp) (t : TypeId) (x y : Operand) {ty : TypeId} (ho : o.op = .binOp op t x y ty)
    {xs ys : Array Value} {r : Bool} (hx : a.eval x = .agg xs) (hy : a.eval y = .agg ys) (hm : P.eqGuardType P.depth t = false) (hr : (binOp op t (.agg xs) (.agg ys)).run P w = .ok (.bool r) w)
    (h : wpList P ops Q rest (a.put o.dst (.bool r)) w) : wpList P ops Q (o :: rest) a w := by
  simp only [wpList, hw, if_true]
  refine Or.inl ?_
  unfold Oper.wp execOp
  simp only [ho, hx, hy, Sem.run_bind, Sem.run_pure, Result.andThen_ok, run_eqGuard_agg w op t x y xs ys hm, hr]
  exact h
end Go.Proofs.YtjdeeloemhjbhaaGreat
