/-
  A region that draws its order, piece by piece: reads that all must come ahead of one operation are walked in the text's order, at the world at hand; then that operation stands alone.
-/
import Derived.StillTailTactics
import Derived.OrdersHeld
import Derived.Laws.StructEq
import Derived.Deep.DeepCutAuto
import Derived.Deep.CutBlock
import Derived.Test.YtjdeeloemhjbhaaGreatSlice

namespace Go.Sep
open Go.RowKit

section
theorem step_store_sat {P : Program} {W0 w : World} {L : List Asn} {ops : Array Oper} {o : Oper} {a : Act} {K : Act → World → Prop} {Q : Exit → Act → World → Prop} {E : Prop} (hgd : o.guard = none) (ty : TypeId) (x y : Operand) (ho : o.op = .store ty x y)
    {g off n : Nat} {cs news : List Value} {e : TypeId} (S : Sat W0 w (blk g cs e :: L)) (hx : a.eval x = .pointer (some ⟨g, off, none⟩)) (hy : a.eval y = .agg news.toArray) (hn : news.length = n) (hfit : off + n ≤ cs.length)
    (hi : (P.info? ty).map (·.size) = some n) (h1 : ∀ u ∈ news, u.oneCell' = true)
    (h : ∀ w', Sat W0 w' (blk g (cs.take off ++ news ++ cs.drop (off + n)) e :: L) → K (a.put o.dst undef) w') : if Region.wanted o (yielded ops a.tmps) = true then Oper.wp P o a w K Q else E := by
  have hw : Region.wanted o (yielded ops a.tmps) = true := by simp [Region.wanted, hgd]
  rw [if_pos hw]
  have S2 := S.setCells off news (by omega)
  rw [hn] at S2
  have h2 := h _ S2
  unfold Oper.wp execOp
  simp only [ho, hx, hy, Instr.storeAt, Instr.sureAddr, Sem.run_bind, Sem.run_pure, Result.andThen_ok, run_storeVar_sat S hn hfit hi h1]
  exact h2
end

section
variable {P : Program} {ops : Array Oper} {md : Region.Mode} {w : World}

/-- whoever stands behind n waits for somebody from n on -/
def segB (md : Region.Mode) (ops : Array Oper) (n : Nat) : Bool :=
  (List.range ops.size).all fun t => decide (t ≤ n) || (List.range t).any fun u => decide (n ≤ u) && Region.waitsFor md ops t u

theorem seg_waits {n : Nat} {listed : Array Bool} (hs : Region.sinkB md ops n = true) (hc : segB md ops n = true) (hn : n < ops.size) (inv : HeadInv md ops n listed) :
    ∀ (d i : Nat), n - i = d → i < n → listed.getD i true = false → ∀ t, n ≤ t → t ∉ Region.ready md ops listed := by
  intro d
  induction d using Nat.strongRecOn with
  | _ d ih =>
    intro i hd hi hun t ht hr
    obtain ⟨_, ot, hot, hall⟩ := mem_ready.1 hr
    have htlt : t < ops.size := (Array.getElem?_eq_some_iff.1 hot).1
    by_cases htn : t = n
    · subst htn
      have h1 := List.all_eq_true.1 hs i (List.mem_range.2 hi)
      obtain ⟨j, hj, hj2⟩ := List.any_eq_true.1 h1
      simp only [Bool.and_eq_true, decide_eq_true_eq] at hj2
      obtain ⟨oj, hoj, e, he, hb, hon⟩ := Region.waitsFor_spec hj2.2
      have hjle : j ≤ t := by have := List.mem_range.1 hj; omega
      by_cases hjt : j = t
      · subst hjt
        have : oj = ot := Option.some.inj (hoj.symm.trans hot)
        subst this
        have h2 := hall e he hb
        rw [hon, getD_both hun] at h2
        cases h2
      · cases hl : listed.getD j false with
        | true =>
          have h2 := inv.closed j oj hoj hl e he hb
          rw [hon, getD_both hun] at h2
          cases h2
        | false =>
          have hjs : j < listed.size := by rw [inv.size]; omega
          exact ih (t - j) (by omega) j rfl (by omega) (getD_in hjs hl) t (Nat.le_refl _) hr
    · have h1 := List.all_eq_true.1 hc t (List.mem_range.2 htlt)
      simp only [Bool.or_eq_true, decide_eq_true_eq] at h1
      rcases h1 with h1 | h1
      · omega
      · obtain ⟨u, hu, hu2⟩ := List.any_eq_true.1 h1
        simp only [Bool.and_eq_true, decide_eq_true_eq] at hu2
        have hut := List.mem_range.1 hu
        obtain ⟨o', ho', e, he, hb, hon⟩ := Region.waitsFor_spec hu2.2
        have : o' = ot := Option.some.inj (ho'.symm.trans hot)
        subst this
        have h2 := hall e he hb
        rw [hon, getD_both (inv.tail u hu2.1 (by omega))] at h2
        cases h2

theorem wpAnyL_first' {n i : Nat} {oi : Oper} {v : Value} {L : Array Bool → Act → Prop} (hi : ops[i]? = some oi) (hsel : ∀ (j : Nat) (o : Oper) cs b, ops[j]? = some o → o.op ≠ .select cs b)
    (hs : Region.sinkB md ops n = true) (hc : segB md ops n = true) (hn : n < ops.size) (hin : i < n)
    (hdone : ∀ listed a, L listed a → ∀ j ∈ Region.ready md ops listed, n ≤ j) :
    ∀ (f : Nat) (listed : Array Bool) (a : Act), HeadInv md ops n listed →
      (∀ j oj, ops[j]? = some oj → j ≠ i → listed.getD j true = false → (∀ e ∈ oj.after, Region.binds md e = true → e.on ≠ i) → oi.apart ops oj = true) →
      i ∈ Region.ready md ops listed → YieldsAt P ops w oi v a →
      wpAnyL P md ops w n L f (listed.setIfInBounds i true) (a.put oi.dst v) → wpAnyL P md ops w n L (f + 1) listed a := by
  intro f
  induction f with
  | zero =>
    intro listed a inv _ hr hy H
    have hun := (mem_ready.1 hr).1
    refine ⟨fun h => (by rw [h] at hr; cases hr), fun j hj => ?_⟩
    have hjn : j < n := by
      rcases Nat.lt_or_ge j n with h | h
      · exact h
      · exact absurd hj (seg_waits hs hc hn inv _ i rfl hin hun j h)
    refine ⟨hjn, ?_⟩
    by_cases hji : j = i
    · subst hji; exact hy.stOp hi H
    · have := hdone _ _ H j (ready_mono hj hji)
      omega
  | succ f ih =>
    intro listed a inv hfree hr hy H
    have hun := (mem_ready.1 hr).1
    refine ⟨fun h => (by rw [h] at hr; cases hr), fun j hj => ?_⟩
    have hjn : j < n := by
      rcases Nat.lt_or_ge j n with h | h
      · exact h
      · exact absurd hj (seg_waits hs hc hn inv _ i rfl hin hun j h)
    refine ⟨hjn, ?_⟩
    by_cases hji : j = i
    · subst hji; exact hy.stOp hi H
    · have h1 := (H.2 j (ready_mono hj hji)).2
      obtain ⟨hjun, oj, hoj, hall⟩ := mem_ready.1 hj
      have hnot : ∀ e ∈ oj.after, Region.binds md e = true → e.on ≠ i := fun e he hb heq => by
        have h1 := hall e he hb
        rw [heq, getD_both hun] at h1
        cases h1
      have h2 := stOp_put hoj (hfree j oj hoj hji hjun hnot) (fun cs b => hsel i oi cs b hi) (fun cs b => hsel j oj cs b hoj) hy h1
      have hfree' : ∀ k ok, ops[k]? = some ok → k ≠ i → (listed.setIfInBounds j true).getD k true = false →
          (∀ e ∈ ok.after, Region.binds md e = true → e.on ≠ i) → oi.apart ops ok = true := fun k ok hk hki hun hno => by
        refine hfree k ok hk hki ?_ hno
        by_cases hjk : j = k
        · subst hjk; exact hjun
        · rw [getD_set_ne true hjk] at hun; exact hun
      refine stOp_mono (fun a' h3 => ih (listed.setIfInBounds j true) a' (inv.set hj hjn) hfree' (ready_mono hr (Ne.symm hji)) h3.1 ?_) h2
      rw [Array.setIfInBounds_comm _ _ hji]
      exact h3.2

def segHead (md : Region.Mode) (ops : Array Oper) (n : Nat) (LN : Array Bool) : Nat → Nat → Array Bool → Bool
  | 0, _, listed => decide (listed = LN) && (Region.ready md ops LN).all fun j => decide (n ≤ j)
  | f + 1, k, listed => (Region.ready md ops listed).contains k && Region.free md ops listed k && segHead md ops n LN f (k + 1) (listed.setIfInBounds k true)

theorem wpAnyL_seg {n : Nat} {LN : Array Bool} {Lq : Act → Prop} (hsel : Region.noSelect ops = true) (hs : Region.sinkB md ops n = true) (hc : segB md ops n = true) (hn : n < ops.size) :
    ∀ (l : List Oper) (k : Nat) (listed : Array Bool) (a : Act), (∀ j, j < l.length → l[j]? = ops[k + j]?) → k + l.length = n → HeadInv md ops n listed →
    segHead md ops n LN l.length k listed = true → wpStill P ops w Lq l a →
    wpAnyL P md ops w n (fun listed' a' => (listed' = LN ∧ ∀ j ∈ Region.ready md ops LN, n ≤ j) ∧ Lq a') l.length listed a
  | [], k, listed, a, _, hk, _, hB, h => by
    simp only [List.length_nil, segHead, Bool.and_eq_true, decide_eq_true_eq, List.all_eq_true] at hB
    exact ⟨⟨hB.1, hB.2⟩, h⟩
  | o :: l, k, listed, a, hl, hk, inv, hB, h => by
    have h0 : ops[k]? = some o := by simpa using (hl 0 (by simp)).symm
    simp only [List.length_cons, segHead, Bool.and_eq_true] at hB
    obtain ⟨⟨hr, hf⟩, hB'⟩ := hB
    have hkn : k < n := by simp only [List.length_cons] at hk; omega
    have hr' : k ∈ Region.ready md ops listed := by simpa using hr
    have hst : stOp P ops w k (wpStill P ops w Lq l) a := by unfold stOp; simp only [h0]; exact h
    obtain ⟨v, hy, hK⟩ := yieldsAt_of_stOp h0 hst
    exact wpAnyL_first' h0 (Region.noSelect_spec hsel) hs hc hn hkn (fun listed' a' hL => by have h3 := hL.1.1; subst h3; exact hL.1.2) l.length listed a inv (Region.free_spec h0 hf) hr' hy
      (wpAnyL_seg hsel hs hc hn l (k + 1) _ _ (fun j hj => by have := hl (j + 1) (by simp; omega); simpa [Nat.add_assoc, Nat.add_comm 1 j] using this) (by simp only [List.length_cons] at hk; omega) (inv.set hr' hkn) hB' hK)

/-- HeadInv as a Bool -/
def headB (md : Region.Mode) (ops : Array Oper) (n : Nat) (listed : Array Bool) : Bool :=
  decide (listed.size = ops.size) && ((List.range ops.size).all fun j => !listed.getD j false || ((ops[j]?).map (·.after.all fun e => !Region.binds md e || listed.getD e.on false)).getD false) &&
    (List.range ops.size).all fun t => decide (t < n) || !listed.getD t true

theorem headB_spec {n : Nat} {listed : Array Bool} (h : headB md ops n listed = true) : HeadInv md ops n listed := by
  unfold headB at h
  simp only [Bool.and_eq_true, decide_eq_true_eq, List.all_eq_true, List.mem_range, Bool.or_eq_true, Bool.not_eq_true'] at h
  obtain ⟨⟨h1, h2⟩, h3⟩ := h
  refine ⟨h1, fun j oj hj hl e he hb => ?_, fun t ht ht' => ?_⟩
  · have hjl : j < ops.size := (Array.getElem?_eq_some_iff.1 hj).1
    rcases h2 j hjl with h | h
    · rw [hl] at h; cases h
    · rw [hj] at h
      simp only [Option.map_some, Option.getD_some, Array.all_eq_true'] at h
      have h4 := h e he
      rw [hb] at h4
      simpa using h4
  · rcases h3 t ht' with h | h
    · omega
    · exact h

def segsB (ops : Array Oper) (k n : Nat) (listed LN : Array Bool) : Bool :=
  Region.noSelect ops && decide (n < ops.size) && decide (k ≤ n) && Region.sinkB .any ops n && segB .any ops n && headB .any ops n listed && segHead .any ops n LN (n - k) k listed

/-- **the reads k..n-1**, at the world at hand, in the text's order; then what may come up is n alone (or what stands behind) -/
theorem wpAny_seg {Q : Exit → Act → World → Prop} {a : Act} {l : List Oper} (k n g f : Nat) {listed : Array Bool} (LN : Array Bool) (hB : segsB l.toArray k n listed LN = true) (hf : f = n - k + g)
    (h : wpStill P l.toArray w (fun a' => wpAny P .any l.toArray Q g LN a' w) ((l.drop k).take (n - k)) a) : wpAny P .any l.toArray Q f listed a w := by
  simp only [segsB, Bool.and_eq_true, decide_eq_true_eq] at hB
  obtain ⟨⟨⟨⟨⟨⟨hsel, hn⟩, hkn⟩, hs⟩, hc⟩, hi⟩, hseg⟩ := hB
  have hn' : n < l.length := by simpa using hn
  have htl : ((l.drop k).take (n - k)).length = n - k := by simp; omega
  have H := wpAnyL_seg (md := .any) (LN := LN) hsel hs hc hn ((l.drop k).take (n - k)) k listed a (fun j hj => by
    have hj' : j < n - k := by rw [htl] at hj; exact hj
    simp [List.getElem?_take, hj', List.getElem?_drop]) (by rw [htl]; omega) (headB_spec hi) (by rw [htl]; exact hseg) h
  have := wpAny_of_head (Q' := Q) (g := g) (fun listed' a' hL => by have h1 := hL.1.1; subst h1; exact hL.2) _ _ _ H
  rw [htl] at this
  rw [hf]
  exact this

/-- the beginning -/
theorem wp_region_drawn {id : Nat} {Q : Exit → Act → World → Prop} {a : Act} {l : List Oper} {N : Nat} {LN : Array Bool} (hm : P.follows .mixedOrders = true) (hN : l.toArray.size = N) (hL : Array.replicate N false = LN)
    (h : wpAny P .any l.toArray Q N LN a w.drew) : (Code.region id l.toArray true).wp P Q a w := by
  refine wp_region_any hm ?_
  rw [hN, hL]
  exact h

/-- one alone may come up -/
theorem wpAny_one {Q : Exit → Act → World → Prop} {a : Act} {f i : Nat} {oi : Oper} {listed LN : Array Bool} (hr : Region.ready md ops listed = [i]) (hi : ops[i]? = some oi) (hL : listed.setIfInBounds i true = LN)
    (h : ∀ K : Act → World → Prop, Hid (∀ a' w', wpAny P md ops Q f LN a' w' → K a' w') → if Region.wanted oi (yielded ops a.tmps) = true then oi.wp P a w K Q else K (a.put oi.dst undef) w) : wpAny P md ops Q (f + 1) listed a w := by
  refine ⟨fun h0 => (by rw [h0] at hr; cases hr), fun j hj => ?_⟩
  rw [hr] at hj
  obtain rfl : j = i := by simpa using hj
  have h2 := h (wpAny P md ops Q f LN) (Lib.hid fun _ _ h => h)
  unfold wpOp
  simp only [hi]
  rw [hL]
  split
  · rename_i hw; rw [if_pos hw] at h2; exact .inl h2
  · rename_i hw; rw [if_neg hw] at h2; exact h2

/-- either of two may come up -/
theorem wpAny_two {Q : Exit → Act → World → Prop} {a : Act} {f i j : Nat} {oi oj : Oper} {listed Li Lj : Array Bool} (hr : Region.ready md ops listed = [i, j]) (hi : ops[i]? = some oi) (hj : ops[j]? = some oj)
    (hLi : listed.setIfInBounds i true = Li) (hLj : listed.setIfInBounds j true = Lj)
    (h : ∀ K : Act → World → Prop, Hid (∀ a' w', wpAny P md ops Q f Li a' w' → K a' w') → if Region.wanted oi (yielded ops a.tmps) = true then oi.wp P a w K Q else K (a.put oi.dst undef) w)
    (h' : ∀ K : Act → World → Prop, Hid (∀ a' w', wpAny P md ops Q f Lj a' w' → K a' w') → if Region.wanted oj (yielded ops a.tmps) = true then oj.wp P a w K Q else K (a.put oj.dst undef) w) : wpAny P md ops Q (f + 1) listed a w := by
  refine ⟨fun h0 => (by rw [h0] at hr; cases hr), fun k hk => ?_⟩
  rw [hr] at hk
  rcases List.mem_cons.1 hk with rfl | hk
  · have h2 := h (wpAny P md ops Q f Li) (Lib.hid fun _ _ h => h)
    unfold wpOp
    simp only [hi]
    rw [hLi]
    split
    · rename_i hw; rw [if_pos hw] at h2; exact .inl h2
    · rename_i hw; rw [if_neg hw] at h2; exact h2
  · obtain rfl : k = j := by simpa using hk
    have h2 := h' (wpAny P md ops Q f Lj) (Lib.hid fun _ _ h => h)
    unfold wpOp
    simp only [hj]
    rw [hLj]
    split
    · rename_i hw; rw [if_pos hw] at h2; exact .inl h2
    · rename_i hw; rw [if_neg hw] at h2; exact h2

/-- one that yields in whatever world -/
theorem wpAny_loc {Q : Exit → Act → World → Prop} {a : Act} {f i : Nat} {oi : Oper} {listed LN : Array Bool} {v : Value} (hi : ops[i]? = some oi) (hs : Region.noSelect ops = true) (hf : Region.free md ops listed i = true)
    (hr : (Region.ready md ops listed).contains i = true) (hQ : ∀ c a w, Q (.panic c) (a.put oi.dst v) w → Q (.panic c) a w) (hL : listed.setIfInBounds i true = LN) (hw : Region.wanted oi (yielded ops a.tmps) = true)
    (hy : ∀ w, (execOp a.eval oi).run P w = .ok (.value v) w) (h : wpAny P md ops Q f LN (a.put oi.dst v) w) : wpAny P md ops Q (f + 1) listed a w :=
  wpAny_take hi hs hf hr hQ (.inl ⟨hw, hy⟩) (hL ▸ h)

/-- a struct or an array read whole, as one of the reads -/
theorem still_load_part {o : Oper} {a : Act} {K : Act → Prop} {E : Prop} (hgd : o.guard = none) (ty : TypeId) (x : Operand) (ho : o.op = .load ty x)
    {g off n : Nat} {cs : List Value} (hx : a.eval x = .pointer (some ⟨g, off, none⟩)) (hc : ∀ j, j < n → w.cell? ⟨g, off + j, none⟩ = cs[j]?) (hn : cs.length = n) {d : TypeDesc}
    (hu : P.underlying ty = some d) (hd : aggKind d = true) (hi : (P.info? ty).map (·.size) = some n) (h : K (a.put o.dst (.agg cs.toArray))) :
    if Region.wanted o (yielded ops a.tmps) = true then o.still P a w K else E := by
  have hw : Region.wanted o (yielded ops a.tmps) = true := by simp [Region.wanted, hgd]
  rw [if_pos hw]
  unfold Oper.still execOp
  simp only [ho, hx, Instr.loadAt, Instr.sureAddr, Sem.run_bind, Sem.run_pure, Result.andThen_ok, run_loadVar_part hc hn hu hd hi]
  exact ⟨rfl, h⟩
/-- '==' and '!=' on two structs or arrays, alone -/
theorem step_eq_agg {Q : Exit → Act → World → Prop} {o : Oper} {a : Act} {K : Act → World → Prop} {E : Prop} (hw : Region.wanted o (yielded ops a.tmps) = true) (op : BinOp) (t : TypeId) (x y : Operand) {ty : TypeId} (ho : o.op = .binOp op t x y ty)
    {xs ys : Array Value} {r : Bool} (hx : a.eval x = .agg xs) (hy : a.eval y = .agg ys) (hm : P.eqGuardType P.depth t = false) (hr : (binOp op t (.agg xs) (.agg ys)).run P w = .ok (.bool r) w)
    (h : K (a.put o.dst (.bool r)) w) : if Region.wanted o (yielded ops a.tmps) = true then Oper.wp P o a w K Q else E := by
  rw [if_pos hw]
  unfold Oper.wp execOp
  simp only [ho, hx, hy, Sem.run_bind, Sem.run_pure, Result.andThen_ok, run_eqGuard_agg w op t x y xs ys hm, hr]
  exact h

/-! ### under a condition on the world that every operation keeps -/
theorem wpAny_held {Q : Exit → Act → World → Prop} {a : Act} {f : Nat} {listed : Array Bool} (S : World → Prop) (hS : S w) (h : S w → wpAnyH P md ops Q S f listed a w) : wpAny P md ops Q f listed a w := wpAny_of_held _ _ _ _ (h hS)
theorem wpAnyH_tk {S : World → Prop} {Q : Exit → Act → World → Prop} {a : Act} {f i : Nat} {oi : Oper} {listed LN : Array Bool} {v : Value} (hi : ops[i]? = some oi) (hs : Region.noSelect ops = true) (hf : Region.free md ops listed i = true)
    (hr : (Region.ready md ops listed).contains i = true) (hQ : ∀ c a w, Q (.panic c) (a.put oi.dst v) w → Q (.panic c) a w) (hL : listed.setIfInBounds i true = LN) (hw : Region.wanted oi (yielded ops a.tmps) = true) (hS : S w)
    (hy : ∀ w', S w' → (execOp a.eval oi).run P w' = .ok (.value v) w') (h : wpAnyH P md ops Q S f LN (a.put oi.dst v) w) : wpAnyH P md ops Q S (f + 1) listed a w :=
  wpAnyH_take hi hs hf hr hQ (.inl ⟨hw, hy⟩) hS (hL ▸ h)
theorem wpAnyH_off {S : World → Prop} {Q : Exit → Act → World → Prop} {a : Act} {f i : Nat} {oi : Oper} {listed LN : Array Bool} (hi : ops[i]? = some oi) (hs : Region.noSelect ops = true) (hf : Region.free md ops listed i = true)
    (hr : (Region.ready md ops listed).contains i = true) (hQ : ∀ c a w, Q (.panic c) (a.put oi.dst undef) w → Q (.panic c) a w) (hL : listed.setIfInBounds i true = LN) (hw : Region.wanted oi (yielded ops a.tmps) = false) (hS : S w)
    (h : wpAnyH P md ops Q S f LN (a.put oi.dst undef) w) : wpAnyH P md ops Q S (f + 1) listed a w :=
  wpAnyH_take hi hs hf hr hQ (.inr ⟨hw, rfl⟩) hS (hL ▸ h)
theorem wpAny_off {Q : Exit → Act → World → Prop} {a : Act} {f i : Nat} {oi : Oper} {listed LN : Array Bool} (hi : ops[i]? = some oi) (hs : Region.noSelect ops = true) (hf : Region.free md ops listed i = true)
    (hr : (Region.ready md ops listed).contains i = true) (hQ : ∀ c a w, Q (.panic c) (a.put oi.dst undef) w → Q (.panic c) a w) (hL : listed.setIfInBounds i true = LN) (hw : Region.wanted oi (yielded ops a.tmps) = false)
    (h : wpAny P md ops Q f LN (a.put oi.dst undef) w) : wpAny P md ops Q (f + 1) listed a w :=
  wpAny_take hi hs hf hr hQ (.inr ⟨hw, rfl⟩) (hL ▸ h)
theorem wpAnyH_one {S : World → Prop} {Q : Exit → Act → World → Prop} {a : Act} {f i : Nat} {oi : Oper} {listed LN : Array Bool} (hr : Region.ready md ops listed = [i]) (hi : ops[i]? = some oi) (hL : listed.setIfInBounds i true = LN)
    (h : ∀ K : Act → World → Prop, Hid (∀ a' w', S w' → (S w' → wpAnyH P md ops Q S f LN a' w') → K a' w') → if Region.wanted oi (yielded ops a.tmps) = true then oi.wp P a w K Q else K (a.put oi.dst undef) w) : wpAnyH P md ops Q S (f + 1) listed a w := by
  refine ⟨fun h0 => (by rw [h0] at hr; cases hr), fun j hj => ?_⟩
  rw [hr] at hj
  obtain rfl : j = i := by simpa using hj
  have h2 := h (fun a' w' => S w' ∧ wpAnyH P md ops Q S f LN a' w') (Lib.hid fun _ _ hS h => ⟨hS, h hS⟩)
  unfold wpOp
  simp only [hi]
  rw [hL]
  split
  · rename_i hw; rw [if_pos hw] at h2; exact .inl h2
  · rename_i hw; rw [if_neg hw] at h2; exact h2
theorem wpAnyH_two {S : World → Prop} {Q : Exit → Act → World → Prop} {a : Act} {f i j : Nat} {oi oj : Oper} {listed Li Lj : Array Bool} (hr : Region.ready md ops listed = [i, j]) (hi : ops[i]? = some oi) (hj : ops[j]? = some oj)
    (hLi : listed.setIfInBounds i true = Li) (hLj : listed.setIfInBounds j true = Lj)
    (h : ∀ K : Act → World → Prop, Hid (∀ a' w', S w' → (S w' → wpAnyH P md ops Q S f Li a' w') → K a' w') → if Region.wanted oi (yielded ops a.tmps) = true then oi.wp P a w K Q else K (a.put oi.dst undef) w)
    (h' : ∀ K : Act → World → Prop, Hid (∀ a' w', S w' → (S w' → wpAnyH P md ops Q S f Lj a' w') → K a' w') → if Region.wanted oj (yielded ops a.tmps) = true then oj.wp P a w K Q else K (a.put oj.dst undef) w) : wpAnyH P md ops Q S (f + 1) listed a w := by
  refine ⟨fun h0 => (by rw [h0] at hr; cases hr), fun k hk => ?_⟩
  rw [hr] at hk
  rcases List.mem_cons.1 hk with rfl | hk
  · have h2 := h (fun a' w' => S w' ∧ wpAnyH P md ops Q S f Li a' w') (Lib.hid fun _ _ hS h => ⟨hS, h hS⟩)
    unfold wpOp
    simp only [hi]
    rw [hLi]
    split
    · rename_i hw; rw [if_pos hw] at h2; exact .inl h2
    · rename_i hw; rw [if_neg hw] at h2; exact h2
  · obtain rfl : k = j := by simpa using hk
    have h2 := h' (fun a' w' => S w' ∧ wpAnyH P md ops Q S f Lj a' w') (Lib.hid fun _ _ hS h => ⟨hS, h hS⟩)
    unfold wpOp
    simp only [hj]
    rw [hLj]
    split
    · rename_i hw; rw [if_pos hw] at h2; exact .inl h2
    · rename_i hw; rw [if_neg hw] at h2; exact h2
theorem run_eq_part {o : Oper} {a : Act} (op : BinOp) (t : TypeId) (x y : Operand) {ty : TypeId} (ho : o.op = .binOp op t x y ty) {xs ys : Array Value} {r : Bool} (hx : a.eval x = .agg xs) (hy : a.eval y = .agg ys) (hm : P.eqGuardType P.depth t = false)
    (hr : (binOp op t (.agg xs) (.agg ys)).run P w = .ok (.bool r) w) : (execOp a.eval o).run P w = .ok (.value (.bool r)) w := by
  unfold execOp
  simp only [ho, hx, hy, Sem.run_bind, Sem.run_pure, Result.andThen_ok, run_eqGuard_agg w op t x y xs ys hm, hr]
theorem run_load_part {o : Oper} {a : Act} (ty : TypeId) (x : Operand) (ho : o.op = .load ty x) {g off n : Nat} {cs : List Value} (hx : a.eval x = .pointer (some ⟨g, off, none⟩)) (hc : ∀ j, j < n → w.cell? ⟨g, off + j, none⟩ = cs[j]?) (hn : cs.length = n) {d : TypeDesc}
    (hu : P.underlying ty = some d) (hd : aggKind d = true) (hi : (P.info? ty).map (·.size) = some n) : (execOp a.eval o).run P w = .ok (.value (.agg cs.toArray)) w := by
  unfold execOp
  simp only [ho, hx, Instr.loadAt, Instr.sureAddr, Sem.run_bind, Sem.run_pure, Result.andThen_ok, run_loadVar_part hc hn hu hd hi]
end
#print axioms wpAny_seg
#print axioms wpAny_one
end Go.Sep
