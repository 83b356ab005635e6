/-
  vm: what a step leaves; '==' on two structs in a region that draws.
-/
import Derived.Test.YtjdeeloemhjbhaaGreatQVmK0
import Derived.Test.YtjdeeloemhjbhaaGreatQVmG
import Derived.Test.YtjdeeloemhjbhaaGreatQVmW5

namespace Go.Proofs.YtjdeeloemhjbhaaGreat
open Go.RowKit Go.Sep Go.Vm

theorem stepP_ok {code : List (Int × Int)} {cap fuel : Int} {s : VS} (hs : s.Ok) {i0 i1 : Int} (hi0 : 0 ≤ i0 ∧ i0 < 65536) (hi1 : 0 ≤ i1 ∧ i1 < 65536) : (stepP code cap fuel s i0 i1).1.Ok := by
  have hz : VS.zero.Ok := ⟨rfl, fun c hc => by
    have := (List.mem_replicate.1 (show c ∈ List.replicate 16 (0 : Int) from hc)).2
    omega, by decide, by decide, by decide⟩
  unfold stepP
  by_cases h1 : checkP code cap fuel ≠ 0
  · rw [if_pos h1]; exact hz
  rw [if_neg h1]
  by_cases h2 : isP s = false ∨ s.seed = 0
  · rw [if_pos h2]; exact hz
  rw [if_neg h2]
  by_cases h3 : s.over = true ∨ cap ≤ s.frame
  · rw [if_pos h3]; exact hz
  rw [if_neg h3]
  have hk : checkP code cap fuel = 0 := by omega
  obtain ⟨hl, hval, hcap1, hcap2, hfu1, hfu2⟩ := check_ok hk
  have hi : isP s = true := by cases e : isP s with
    | true => rfl
    | false => exact absurd (Or.inl e) h2
  have hfr : 0 ≤ s.frame ∧ s.frame ≤ 600 := by
    unfold isP at hi
    simp only [Bool.and_eq_true, decide_eq_true_eq] at hi
    omega
  have hrun := runP_ok (code := code) hval fuel.toNat ⟨s, i0, i1, [], 0, false, false⟩ ⟨hs, hi0, hi1, fun c hc => by simp at hc, hfr⟩ (Int.le_refl _) (by show (0 : Int) ≤ code.length; omega) (Nat.zero_le _)
  have hend : ∀ t : VS, t.Ok → 0 ≤ t.frame ∧ t.frame ≤ 600 → (endP cap t).Ok := by
    intro t ht hf
    have hw : ∀ x : Int, 0 ≤ x ∧ x ≤ 2 → -9223372036854775808 ≤ x ∧ x < 9223372036854775808 := by intro x h; omega
    unfold endP
    simp only
    split
    · refine ⟨ht.len, ht.cells, ⟨by show _ ≤ t.frame + 1; omega, by show t.frame + 1 < _; omega⟩, ht.seed, hw _ ?_⟩
      simp only
      split
      · omega
      · split <;> omega
    · exact ⟨ht.len, ht.cells, ⟨by show _ ≤ t.frame + 1; omega, by show t.frame + 1 < _; omega⟩, ht.seed, ht.winner⟩
  simp only
  split
  · exact hend _ hrun.s hrun.frame
  · exact hend _ hs hfr

theorem doP_inv {op arg : Int} {n : Nat} {m : VM} (hm : mayP op arg n = true) : (doP op arg m).s.frame = m.s.frame ∧ (m.s.winner ≤ 2 → (doP op arg m).s.winner ≤ 2) := by
  have hop := may_op hm
  by_cases h20 : op = 20
  · subst h20
    rw [doP_win rfl]
    refine ⟨rfl, fun _ => ?_⟩
    unfold mayP at hm
    simp at hm
    exact hm.2
  by_cases h22 : op = 22
  · subst h22
    rw [doP_halt rfl]
    exact ⟨rfl, id⟩
  exact ⟨doP_keep h20 h22 hop, fun h => by rw [(doP_ne h20 h22 hop).2.2.1]; exact h⟩
theorem runP_inv {code : List (Int × Int)} (hv : ∀ (k : Nat) (x : Int × Int), code[k]? = some x → mayP x.1 x.2 code.length = true) :
    ∀ (fuel : Nat) (m : VM), m.Ok → 0 ≤ m.pc → m.pc ≤ code.length → m.st.length ≤ 32 → (runP code fuel m).2.s.frame = m.s.frame ∧ (m.s.winner ≤ 2 → (runP code fuel m).2.s.winner ≤ 2) := by
  intro fuel
  induction fuel with
  | zero =>
    intro m hM h0 hn hs
    by_cases h : m.pc < code.length ∧ m.ended = false
    · rw [runP_dry h]; exact ⟨rfl, id⟩
    · rw [runP_stop h]; exact ⟨rfl, id⟩
  | succ f ih =>
    intro m hM h0 hn hs
    by_cases h : m.pc < code.length ∧ m.ended = false
    · obtain ⟨k, hk⟩ : ∃ k : Nat, m.pc = (k : Int) := ⟨m.pc.toNat, by omega⟩
      have hkl : k < code.length := by have := h.1; omega
      have hx : code[m.pc.toNat]? = some code[k] := by rw [hk]; exact List.getElem?_eq_getElem hkl
      have hmay := hv k _ (List.getElem?_eq_getElem hkl)
      have hK : Kept code.length { m with pc := m.pc + 1 } (doP code[k].1 code[k].2 { m with pc := m.pc + 1 }) :=
        doP_kept hmay ⟨hM.s, hM.i0, hM.i1, hM.st, hM.frame⟩ (by show 0 ≤ m.pc + 1; omega) (by show m.pc + 1 ≤ code.length; omega) hs
      have hI := doP_inv (m := { m with pc := m.pc + 1 }) hmay
      cases hb : (doP code[k].1 code[k].2 { m with pc := m.pc + 1 }).bad with
      | true => rw [runP_bad h hx hb]; exact hI
      | false =>
        rw [runP_more h hx hb]
        have h2 := ih _ hK.ok hK.pc0 hK.pcn (hK.st hb)
        exact ⟨h2.1.trans hI.1, fun hw => h2.2 (hI.2 hw)⟩
    · rw [runP_stop h]; exact ⟨rfl, id⟩
theorem stepP_next {code : List (Int × Int)} {cap fuel : Int} {s : VS} {i0 i1 : Int} {t : VS} (h : stepP code cap fuel s i0 i1 = (t, 0)) (hs : s.Ok) (hi0 : 0 ≤ i0 ∧ i0 < 65536) (hi1 : 0 ≤ i1 ∧ i1 < 65536) :
    t.frame = s.frame + 1 ∧ t.winner ≤ 2 ∧ (t.over = false → t.frame < cap) ∧ (0 ≤ s.frame ∧ s.frame ≤ 600) := by
  unfold stepP at h
  by_cases h1 : checkP code cap fuel ≠ 0
  · rw [if_pos h1] at h
    exact absurd (congrArg Prod.snd h) h1
  rw [if_neg h1] at h
  by_cases h2 : isP s = false ∨ s.seed = 0
  · rw [if_pos h2] at h
    have := congrArg Prod.snd h
    simp at this
  rw [if_neg h2] at h
  by_cases h3 : s.over = true ∨ cap ≤ s.frame
  · rw [if_pos h3] at h
    have := congrArg Prod.snd h
    simp at this
  rw [if_neg h3] at h
  have ht : endP cap (if (runP code fuel.toNat ⟨s, i0, i1, [], 0, false, false⟩).1 = true then (runP code fuel.toNat ⟨s, i0, i1, [], 0, false, false⟩).2.s else s) = t := congrArg Prod.fst h
  have hk : checkP code cap fuel = 0 := by omega
  obtain ⟨hl, hval, hcap1, hcap2, hfu1, hfu2⟩ := check_ok hk
  have hi : isP s = true := by cases e : isP s with
    | true => rfl
    | false => exact absurd (Or.inl e) h2
  have hfr : (0 ≤ s.frame ∧ s.frame ≤ 600) ∧ s.winner ≤ 2 := by
    unfold isP at hi
    simp only [Bool.and_eq_true, decide_eq_true_eq] at hi
    exact ⟨⟨hi.1, hi.2.1⟩, hi.2.2.2.1⟩
  have hrun := runP_inv (code := code) hval fuel.toNat ⟨s, i0, i1, [], 0, false, false⟩ ⟨hs, hi0, hi1, fun c hc => by simp at hc, hfr.1⟩ (Int.le_refl _) (by show (0 : Int) ≤ code.length; omega) (Nat.zero_le _)
  have hend : ∀ u : VS, u.frame = s.frame → u.winner ≤ 2 → (endP cap u).frame = s.frame + 1 ∧ (endP cap u).winner ≤ 2 ∧ ((endP cap u).over = false → (endP cap u).frame < cap) := by
    intro u hu hw
    unfold endP
    simp only
    split
    · refine ⟨by simp only; omega, ?_, fun hx => by simp at hx⟩
      simp only
      split
      · omega
      · split <;> omega
    · rename_i hc
      refine ⟨by simp only; omega, hw, fun hx => ?_⟩
      simp only at hx ⊢
      have : ¬ (cap ≤ u.frame + 1) := fun hh => hc ⟨hh, hx⟩
      omega
  rw [← ht]
  by_cases hb : (runP code fuel.toNat ⟨s, i0, i1, [], 0, false, false⟩).1 = true
  · rw [if_pos hb]
    have := hend _ hrun.1 (hrun.2 hfr.2)
    exact ⟨this.1, this.2.1, this.2.2, hfr.1⟩
  · rw [if_neg hb]
    have := hend s rfl hfr.2
    exact ⟨this.1, this.2.1, this.2.2, hfr.1⟩
/-- '==' on two structs in a region that draws -/
theorem yields_eq_agg {P : Program} {ops : Array Oper} {S : World → Prop} {o : Oper} {a : Act} (hgd : o.guard = none) (op : BinOp) (t : TypeId) (x y : Operand) {ty : TypeId} (ho : o.op = .binOp op t x y ty)
    {xs ys : Array Value} {r : Bool} (hx : a.eval x = .agg xs) (hy : a.eval y = .agg ys) (hm : P.eqGuardType P.depth t = false) (hr : ∀ w, (binOp op t (.agg xs) (.agg ys)).run P w = .ok (.bool r) w) : YieldsIf P ops S o (.bool r) a := by
  refine Or.inl ⟨by simp [Region.wanted, hgd], fun w _ => ?_⟩
  unfold execOp
  simp only [ho, hx, hy, Sem.run_bind, Sem.run_pure, Result.andThen_ok, run_eqGuard_agg w op t x y xs ys hm, hr w]
end Go.Proofs.YtjdeeloemhjbhaaGreat
