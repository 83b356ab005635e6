/-
  A region that draws its order, under a condition on the world that every operation keeps, up to one last operation, which need not keep it.
-/
import Derived.Test.YtjdeeloemhjbhaaGreatQSeg

namespace Go.Sep
open Go.RowKit

section
variable {P : Program} {ops : Array Oper} {md : Region.Mode}

def wpAnyU (P : Program) (md : Region.Mode) (ops : Array Oper) (Q : Exit → Act → World → Prop) (S : World → Prop) (m : Nat) : Nat → Array Bool → Act → World → Prop
  | 0, listed, a, w => Region.ready md ops listed = [] ∧ Q .normal a w
  | fuel + 1, listed, a, w =>
    (Region.ready md ops listed = [] → Q .normal a w) ∧
    ∀ i ∈ Region.ready md ops listed, wpOp P ops Q i (fun a' w' => if i = m then wpAny P md ops Q fuel (listed.setIfInBounds i true) a' w' else S w' ∧ wpAnyU P md ops Q S m fuel (listed.setIfInBounds i true) a' w') a w

theorem wpAny_of_until {Q : Exit → Act → World → Prop} {S : World → Prop} {m : Nat} : ∀ (fuel : Nat) (listed : Array Bool) (a : Act) (w : World), wpAnyU P md ops Q S m fuel listed a w → wpAny P md ops Q fuel listed a w
  | 0, _, _, _, h => h
  | fuel + 1, _, _, _, h => ⟨h.1, fun i hi => wpOp_mono (fun a' w' h' => by
      by_cases him : i = m
      · rw [if_pos him] at h'; exact h'
      · rw [if_neg him] at h'; exact wpAny_of_until fuel _ a' w' h'.2) (h.2 i hi)⟩
theorem wpAny_until {Q : Exit → Act → World → Prop} {a : Act} {f : Nat} {listed : Array Bool} {w : World} (m : Nat) (S : World → Prop) (hS : S w) (h : S w → wpAnyU P md ops Q S m f listed a w) : wpAny P md ops Q f listed a w := wpAny_of_until _ _ _ _ (h hS)

theorem wpAnyU_first {Q : Exit → Act → World → Prop} {S : World → Prop} {m i : Nat} {oi : Oper} {v : Value} (hs : Region.sinkB md ops m = true) (hc : segB md ops m = true) (hm : m < ops.size) (him : i < m)
    (hi : ops[i]? = some oi) (hsel : ∀ (j : Nat) (o : Oper) cs b, ops[j]? = some o → o.op ≠ .select cs b) (hQ : ∀ c a w, Q (.panic c) (a.put oi.dst v) w → Q (.panic c) a w) :
    ∀ (fuel : Nat) (listed : Array Bool) (a : Act) (w : World), HeadInv md ops m listed →
      (∀ j oj, ops[j]? = some oj → j ≠ i → listed.getD j true = false → (∀ e ∈ oj.after, Region.binds md e = true → e.on ≠ i) → oi.apart ops oj = true) →
      i ∈ Region.ready md ops listed → YieldsIf P ops S oi v a → S w →
      wpAnyU P md ops Q S m fuel (listed.setIfInBounds i true) (a.put oi.dst v) w → wpAnyU P md ops Q S m (fuel + 1) listed a w := by
  have hne : i ≠ m := by omega
  intro fuel
  induction fuel with
  | zero =>
    intro listed a w _ _ hr hy hS H
    refine ⟨fun h => (by rw [h] at hr; cases hr), fun j hj => ?_⟩
    by_cases hji : j = i
    · subst hji; exact hy.wpOp hi hS (by rw [if_neg hne]; exact ⟨hS, H⟩)
    · have := ready_mono hj hji
      rw [H.1] at this
      cases this
  | succ fuel ih =>
    intro listed a w inv hfree hr hy hS H
    refine ⟨fun h => (by rw [h] at hr; cases hr), fun j hj => ?_⟩
    by_cases hji : j = i
    · subst hji; exact hy.wpOp hi hS (by rw [if_neg hne]; exact ⟨hS, H⟩)
    · have hun := (mem_ready.1 hr).1
      have hjm : j < m := by
        rcases Nat.lt_or_ge j m with h | h
        · exact h
        · exact absurd hj (seg_waits hs hc hm inv _ i rfl him hun j h)
      have hjne : j ≠ m := by omega
      have h1 := H.2 j (ready_mono hj hji)
      simp only [if_neg hjne] at h1
      obtain ⟨hjun, oj, hoj, hall⟩ := mem_ready.1 hj
      have hnot : ∀ e ∈ oj.after, Region.binds md e = true → e.on ≠ i := fun e he hb heq => by
        have h1 := hall e he hb
        rw [heq, getD_both hun] at h1
        cases h1
      have h2 := wpOp_putIf hoj (hfree j oj hoj hji hjun hnot) (fun cs b => hsel i oi cs b hi) (fun cs b => hsel j oj cs b hoj) hQ hy h1
      have hfree' : ∀ k ok, ops[k]? = some ok → k ≠ i → (listed.setIfInBounds j true).getD k true = false →
          (∀ e ∈ ok.after, Region.binds md e = true → e.on ≠ i) → oi.apart ops ok = true := fun k ok hk hki hun hno => by
        refine hfree k ok hk hki ?_ hno
        by_cases hjk : j = k
        · subst hjk; exact hjun
        · rw [getD_set_ne true hjk] at hun; exact hun
      refine wpOp_mono (fun a' w' h3 => ?_) h2
      rw [if_neg hjne]
      refine ⟨h3.2.1, ih (listed.setIfInBounds j true) a' w' (inv.set hj hjm) hfree' (ready_mono hr (Ne.symm hji)) h3.1 h3.2.1 ?_⟩
      rw [Array.setIfInBounds_comm _ _ hji]
      exact h3.2.2

def untilB (md : Region.Mode) (ops : Array Oper) (m : Nat) (listed : Array Bool) (i : Nat) : Bool :=
  decide (i < m) && decide (m < ops.size) && Region.sinkB md ops m && segB md ops m && headB md ops m listed

theorem wpAnyU_tk {w : World} {S : World → Prop} {m : Nat} {Q : Exit → Act → World → Prop} {a : Act} {f i : Nat} {oi : Oper} {listed LN : Array Bool} {v : Value} (hU : untilB md ops m listed i = true) (hi : ops[i]? = some oi) (hs : Region.noSelect ops = true) (hf : Region.free md ops listed i = true)
    (hr : (Region.ready md ops listed).contains i = true) (hQ : ∀ c a w, Q (.panic c) (a.put oi.dst v) w → Q (.panic c) a w) (hL : listed.setIfInBounds i true = LN) (hw : Region.wanted oi (yielded ops a.tmps) = true) (hS : S w)
    (hy : ∀ w', S w' → (execOp a.eval oi).run P w' = .ok (.value v) w') (h : wpAnyU P md ops Q S m f LN (a.put oi.dst v) w) : wpAnyU P md ops Q S m (f + 1) listed a w := by
  simp only [untilB, Bool.and_eq_true, decide_eq_true_eq] at hU
  obtain ⟨⟨⟨⟨h1, h2⟩, h3⟩, h4⟩, h5⟩ := hU
  exact wpAnyU_first h3 h4 h2 h1 hi (Region.noSelect_spec hs) hQ f listed a w (headB_spec h5) (Region.free_spec hi hf) (by simpa using hr) (.inl ⟨hw, hy⟩) hS (hL ▸ h)
theorem wpAnyU_off {w : World} {S : World → Prop} {m : Nat} {Q : Exit → Act → World → Prop} {a : Act} {f i : Nat} {oi : Oper} {listed LN : Array Bool} (hU : untilB md ops m listed i = true) (hi : ops[i]? = some oi) (hs : Region.noSelect ops = true) (hf : Region.free md ops listed i = true)
    (hr : (Region.ready md ops listed).contains i = true) (hQ : ∀ c a w, Q (.panic c) (a.put oi.dst undef) w → Q (.panic c) a w) (hL : listed.setIfInBounds i true = LN) (hw : Region.wanted oi (yielded ops a.tmps) = false) (hS : S w)
    (h : wpAnyU P md ops Q S m f LN (a.put oi.dst undef) w) : wpAnyU P md ops Q S m (f + 1) listed a w := by
  simp only [untilB, Bool.and_eq_true, decide_eq_true_eq] at hU
  obtain ⟨⟨⟨⟨h1, h2⟩, h3⟩, h4⟩, h5⟩ := hU
  exact wpAnyU_first h3 h4 h2 h1 hi (Region.noSelect_spec hs) hQ f listed a w (headB_spec h5) (Region.free_spec hi hf) (by simpa using hr) (.inr ⟨hw, rfl⟩) hS (hL ▸ h)
/-- one alone, which is not the last one -/
theorem wpAnyU_one {w : World} {S : World → Prop} {m : Nat} {Q : Exit → Act → World → Prop} {a : Act} {f i : Nat} {oi : Oper} {listed LN : Array Bool} (hm : i ≠ m) (hr : Region.ready md ops listed = [i]) (hi : ops[i]? = some oi) (hL : listed.setIfInBounds i true = LN)
    (h : ∀ K : Act → World → Prop, Hid (∀ a' w', S w' → (S w' → wpAnyU P md ops Q S m f LN a' w') → K a' w') → if Region.wanted oi (yielded ops a.tmps) = true then oi.wp P a w K Q else K (a.put oi.dst undef) w) : wpAnyU P md ops Q S m (f + 1) listed a w := by
  refine ⟨fun h0 => (by rw [h0] at hr; cases hr), fun j hj => ?_⟩
  rw [hr] at hj
  obtain rfl : j = i := by simpa using hj
  simp only [if_neg hm]
  have h2 := h (fun a' w' => S w' ∧ wpAnyU P md ops Q S m f LN a' w') (Lib.hid fun _ _ hS h => ⟨hS, h hS⟩)
  unfold wpOp
  simp only [hi]
  rw [hL]
  split
  · rename_i hw; rw [if_pos hw] at h2; exact .inl h2
  · rename_i hw; rw [if_neg hw] at h2; exact h2
/-- the last one: from here on nothing is kept -/
theorem wpAnyU_fin {w : World} {S : World → Prop} {i : Nat} {Q : Exit → Act → World → Prop} {a : Act} {f : Nat} {oi : Oper} {listed LN : Array Bool} (hr : Region.ready md ops listed = [i]) (hi : ops[i]? = some oi) (hL : listed.setIfInBounds i true = LN)
    (h : ∀ K : Act → World → Prop, Hid (∀ a' w', wpAny P md ops Q f LN a' w' → K a' w') → if Region.wanted oi (yielded ops a.tmps) = true then oi.wp P a w K Q else K (a.put oi.dst undef) w) : wpAnyU P md ops Q S i (f + 1) listed a w := by
  refine ⟨fun h0 => (by rw [h0] at hr; cases hr), fun j hj => ?_⟩
  rw [hr] at hj
  obtain rfl : j = i := by simpa using hj
  simp only [if_true]
  have h2 := h (wpAny P md ops Q f LN) (Lib.hid fun _ _ h => h)
  unfold wpOp
  simp only [hi]
  rw [hL]
  split
  · rename_i hw; rw [if_pos hw] at h2; exact .inl h2
  · rename_i hw; rw [if_neg hw] at h2; exact h2
/-- either of two, of which neither is the last one -/
theorem wpAnyU_two {w : World} {S : World → Prop} {m : Nat} {Q : Exit → Act → World → Prop} {a : Act} {f i j : Nat} {oi oj : Oper} {listed Li Lj : Array Bool} (him : i ≠ m) (hjm : j ≠ m) (hr : Region.ready md ops listed = [i, j]) (hi : ops[i]? = some oi) (hj : ops[j]? = some oj)
    (hLi : listed.setIfInBounds i true = Li) (hLj : listed.setIfInBounds j true = Lj)
    (h : ∀ K : Act → World → Prop, Hid (∀ a' w', S w' → (S w' → wpAnyU P md ops Q S m f Li a' w') → K a' w') → if Region.wanted oi (yielded ops a.tmps) = true then oi.wp P a w K Q else K (a.put oi.dst undef) w)
    (h' : ∀ K : Act → World → Prop, Hid (∀ a' w', S w' → (S w' → wpAnyU P md ops Q S m f Lj a' w') → K a' w') → if Region.wanted oj (yielded ops a.tmps) = true then oj.wp P a w K Q else K (a.put oj.dst undef) w) : wpAnyU P md ops Q S m (f + 1) listed a w := by
  refine ⟨fun h0 => (by rw [h0] at hr; cases hr), fun k hk => ?_⟩
  rw [hr] at hk
  rcases List.mem_cons.1 hk with rfl | hk
  · simp only [if_neg him]
    have h2 := h (fun a' w' => S w' ∧ wpAnyU P md ops Q S m f Li a' w') (Lib.hid fun _ _ hS h => ⟨hS, h hS⟩)
    unfold wpOp
    simp only [hi]
    rw [hLi]
    split
    · rename_i hw; rw [if_pos hw] at h2; exact .inl h2
    · rename_i hw; rw [if_neg hw] at h2; exact h2
  · obtain rfl : k = j := by simpa using hk
    simp only [if_neg hjm]
    have h2 := h' (fun a' w' => S w' ∧ wpAnyU P md ops Q S m f Lj a' w') (Lib.hid fun _ _ hS h => ⟨hS, h hS⟩)
    unfold wpOp
    simp only [hj]
    rw [hLj]
    split
    · rename_i hw; rw [if_pos hw] at h2; exact .inl h2
    · rename_i hw; rw [if_neg hw] at h2; exact h2
end
#print axioms wpAnyU_first
end Go.Sep
