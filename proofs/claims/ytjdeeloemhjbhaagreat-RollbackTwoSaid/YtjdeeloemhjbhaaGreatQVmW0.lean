/-
  Chapter 10's document, plain: a frame that runs, and that it comes to what the machine does.
-/
import Derived.Test.YtjdeeloemhjbhaaGreatQVmL

namespace Go.Vm
open Go.RowKit

structure RM where
  s : VS
  i0 : Int
  i1 : Int
  st : List Int
  pc : Int
  won : Int
  bad : Bool

def rvals (m : RM) (ao : Option Addr) (cap : Nat) : List Value :=
  .int .i64 m.s.frame :: (m.s.cells.map (Value.int .i32) ++ [.int .u32 m.s.seed, .bool m.s.over, .int .i64 m.s.winner, .int .u16 m.i0, .int .u16 m.i1, .slice ao m.st.length cap, .int .i64 m.pc, .int .i64 m.won, .bool m.bad])

def RM.pop (m : RM) : Int × RM :=
  match m.st with
  | [] => (0, { m with bad := true })
  | v :: r => (v, { m with st := r })
def RM.push (m : RM) (v : Int) : RM := if 32 ≤ m.st.length then { m with bad := true } else { m with st := v :: m.st }
def takesP (op : Int) : Nat := if op = 3 ∨ op = 12 ∨ op = 13 ∨ op = 15 ∨ op = 19 then 1 else if (4 ≤ op ∧ op ≤ 11) ∨ op = 14 then 2 else 0
/-- what an op but win and halt does -/
def actP (op arg : Int) (m : RM) : RM :=
  if op = 1 then m.push arg
  else if op = 2 then m.push (m.s.cells[arg.toNat]?.getD 0)
  else if op = 3 then (let p := m.pop; { p.2 with s := { p.2.s with cells := p.2.s.cells.set arg.toNat p.1 } })
  else if op ≤ 11 then (let p := m.pop; let q := p.2.pop; q.2.push (op2 op q.1 p.1))
  else if op = 12 then (let p := m.pop; p.2.push (truth (decide (p.1 = 0))))
  else if op = 13 then (let p := m.pop; (p.2.push p.1).push p.1)
  else if op = 14 then (let p := m.pop; let q := p.2.pop; (q.2.push p.1).push q.1)
  else if op = 15 then m.pop.2
  else if op = 16 then m.push (if arg = 0 then m.i0 else m.i1)
  else if op = 17 then m.push m.s.frame
  else if op = 18 then { m with pc := arg }
  else if op = 19 then (let p := m.pop; if p.1 = 0 then { p.2 with pc := arg } else p.2)
  else (let m' := { m with s := { m.s with seed := nextSeed m.s.seed } }; m'.push (nextSeed m.s.seed % 65536))
def doesP (op arg : Int) (n : Nat) (m : RM) : Bool × RM :=
  if m.st.length < takesP op then (false, { m with bad := true })
  else if op = 20 then (false, { m with pc := m.pc + 1, won := arg })
  else if op = 22 then (false, { m with pc := m.pc + 1 })
  else
    let m' := actP op arg { m with pc := m.pc + 1 }
    (!m'.bad && decide (m'.pc < n), m')

theorem doesP_few {op arg : Int} {n : Nat} {m : RM} (h : m.st.length < takesP op) : doesP op arg n m = (false, { m with bad := true }) := by
  unfold doesP; rw [if_pos h]
theorem doesP_act {op arg : Int} {n : Nat} {m : RM} (h : ¬ m.st.length < takesP op) (h20 : op ≠ 20) (h22 : op ≠ 22) : doesP op arg n m = (!(actP op arg { m with pc := m.pc + 1 }).bad && decide ((actP op arg { m with pc := m.pc + 1 }).pc < n), actP op arg { m with pc := m.pc + 1 }) := by
  unfold doesP; rw [if_neg h, if_neg h20, if_neg h22]
theorem doesP_win {arg : Int} {n : Nat} {m : RM} : doesP 20 arg n m = (false, { m with pc := m.pc + 1, won := arg }) := by
  unfold doesP
  rw [if_neg (by show ¬ m.st.length < 0; omega), if_pos rfl]
theorem doesP_halt {arg : Int} {n : Nat} {m : RM} : doesP 22 arg n m = (false, { m with pc := m.pc + 1 }) := by
  unfold doesP
  rw [if_neg (by show ¬ m.st.length < 0; omega), if_neg (by decide), if_pos rfl]

/-! ### the machine's cells -/
section
variable {m : RM} {ao : Option Addr} {cap : Nat}
theorem rvals_tail (h : m.s.cells.length = 16) (k : Nat) : (rvals m ao cap)[17 + k]? = ([.int .u32 m.s.seed, .bool m.s.over, .int .i64 m.s.winner, .int .u16 m.i0, .int .u16 m.i1, .slice ao m.st.length cap, .int .i64 m.pc, .int .i64 m.won, .bool m.bad] : List Value)[k]? := by
  unfold rvals
  rw [show 17 + k = (16 + k) + 1 by omega, List.getElem?_cons_succ, List.getElem?_append_right (by rw [List.length_map]; omega), List.length_map, h]
  congr 1
  omega
theorem rvals_cell (h : m.s.cells.length = 16) {k : Nat} (hk : k < 16) : (rvals m ao cap)[1 + k]? = some (.int .i32 (m.s.cells[k]?.getD 0)) := by
  unfold rvals
  rw [show 1 + k = k + 1 by omega, List.getElem?_cons_succ, List.getElem?_append_left (by rw [List.length_map]; omega), List.getElem?_map, List.getElem?_eq_getElem (by omega)]
  rfl
theorem rvals_length (h : m.s.cells.length = 16) : (rvals m ao cap).length = 26 := by
  simp [rvals, h]
theorem rvals_frame (v : Int) : (rvals m ao cap).set 0 (.int .i64 v) = rvals { m with s := { m.s with frame := v } } ao cap := rfl
theorem rvals_seed (h : m.s.cells.length = 16) (v : Int) : (rvals m ao cap).set 17 (.int .u32 v) = rvals { m with s := { m.s with seed := v } } ao cap :=
  set_tail _ _ _ (by rw [List.length_map, h]) 0 _
theorem rvals_over (h : m.s.cells.length = 16) (v : Bool) : (rvals m ao cap).set 18 (.bool v) = rvals { m with s := { m.s with over := v } } ao cap :=
  set_tail _ _ _ (by rw [List.length_map, h]) 1 _
theorem rvals_winner (h : m.s.cells.length = 16) (v : Int) : (rvals m ao cap).set 19 (.int .i64 v) = rvals { m with s := { m.s with winner := v } } ao cap :=
  set_tail _ _ _ (by rw [List.length_map, h]) 2 _
theorem rvals_st (h : m.s.cells.length = 16) (st : List Int) (ao' : Option Addr) (cap' : Nat) : (rvals m ao cap).set 22 (.slice ao' st.length cap') = rvals { m with st := st } ao' cap' :=
  set_tail _ _ _ (by rw [List.length_map, h]) 5 _
theorem rvals_pc (h : m.s.cells.length = 16) (v : Int) : (rvals m ao cap).set 23 (.int .i64 v) = rvals { m with pc := v } ao cap :=
  set_tail _ _ _ (by rw [List.length_map, h]) 6 _
theorem rvals_won (h : m.s.cells.length = 16) (v : Int) : (rvals m ao cap).set 24 (.int .i64 v) = rvals { m with won := v } ao cap :=
  set_tail _ _ _ (by rw [List.length_map, h]) 7 _
theorem rvals_bad (h : m.s.cells.length = 16) (v : Bool) : (rvals m ao cap).set 25 (.bool v) = rvals { m with bad := v } ao cap :=
  set_tail _ _ _ (by rw [List.length_map, h]) 8 _
theorem rvals_set (h : m.s.cells.length = 16) {k : Nat} (hk : k < 16) (v : Int) : (rvals m ao cap).set (1 + k) (.int .i32 v) = rvals { m with s := { m.s with cells := m.s.cells.set k v } } ao cap := by
  unfold rvals
  rw [show 1 + k = k + 1 by omega, List.set_cons_succ, List.set_append_left _ _ (by rw [List.length_map]; omega)]
  simp only [List.map_set]
end

/-- the document's machine that is the machine -/
def rm (m : VM) : RM := ⟨m.s, m.i0, m.i1, m.st, m.pc, -1, false⟩
structure Fell (m : VM) (r : Bool × RM) : Prop where
  no : r.1 = false
  bad : r.2.bad = true
  frame : r.2.s.frame = m.s.frame
  over : r.2.s.over = m.s.over
  winner : r.2.s.winner = m.s.winner
  len : r.2.s.cells.length = m.s.cells.length
theorem doP_ne {op arg : Int} {m : VM} (h : op ≠ 20) (h2 : op ≠ 22) (h3 : 1 ≤ op ∧ op ≤ 22) : (doP op arg m).ended = m.ended ∧ (doP op arg m).s.over = m.s.over ∧ (doP op arg m).s.winner = m.s.winner ∧ (doP op arg m).i0 = m.i0 ∧ (doP op arg m).i1 = m.i1 := by
  have hp : ∀ m : VM, m.pop.2.ended = m.ended ∧ m.pop.2.s = m.s ∧ m.pop.2.i0 = m.i0 ∧ m.pop.2.i1 = m.i1 := by
    intro m; unfold VM.pop; split <;> exact ⟨rfl, rfl, rfl, rfl⟩
  have h1 := hp m
  have h2 := hp m.pop.2
  have hc : op = 1 ∨ op = 2 ∨ op = 3 ∨ (4 ≤ op ∧ op ≤ 11) ∨ op = 12 ∨ op = 13 ∨ op = 14 ∨ op = 15 ∨ op = 16 ∨ op = 17 ∨ op = 18 ∨ op = 19 ∨ op = 21 := by omega
  rcases hc with e | e | e | e | e | e | e | e | e | e | e | e | e
  · rw [doP_push e]; exact ⟨rfl, rfl, rfl, rfl, rfl⟩
  · rw [doP_load e]; exact ⟨rfl, rfl, rfl, rfl, rfl⟩
  · rw [doP_store e]
    refine ⟨h1.1, ?_, ?_, h1.2.2.1, h1.2.2.2⟩
    · show m.pop.2.s.over = _; rw [h1.2.1]
    · show m.pop.2.s.winner = _; rw [h1.2.1]
  · rw [doP_two e]
    refine ⟨h2.1.trans h1.1, ?_, ?_, h2.2.2.1.trans h1.2.2.1, h2.2.2.2.trans h1.2.2.2⟩
    · show m.pop.2.pop.2.s.over = _; rw [h2.2.1, h1.2.1]
    · show m.pop.2.pop.2.s.winner = _; rw [h2.2.1, h1.2.1]
  · rw [doP_not e]
    refine ⟨h1.1, ?_, ?_, h1.2.2.1, h1.2.2.2⟩
    · show m.pop.2.s.over = _; rw [h1.2.1]
    · show m.pop.2.s.winner = _; rw [h1.2.1]
  · rw [doP_dup e]
    refine ⟨h1.1, ?_, ?_, h1.2.2.1, h1.2.2.2⟩
    · show m.pop.2.s.over = _; rw [h1.2.1]
    · show m.pop.2.s.winner = _; rw [h1.2.1]
  · rw [doP_swap e]
    refine ⟨h2.1.trans h1.1, ?_, ?_, h2.2.2.1.trans h1.2.2.1, h2.2.2.2.trans h1.2.2.2⟩
    · show m.pop.2.pop.2.s.over = _; rw [h2.2.1, h1.2.1]
    · show m.pop.2.pop.2.s.winner = _; rw [h2.2.1, h1.2.1]
  · rw [doP_drop e, h1.2.1]; exact ⟨h1.1, rfl, rfl, h1.2.2.1, h1.2.2.2⟩
  · rw [doP_input e]; exact ⟨rfl, rfl, rfl, rfl, rfl⟩
  · rw [doP_frame e]; exact ⟨rfl, rfl, rfl, rfl, rfl⟩
  · rw [doP_jump e]; exact ⟨rfl, rfl, rfl, rfl, rfl⟩
  · rw [doP_zero e]
    split
    · refine ⟨h1.1, ?_, ?_, h1.2.2.1, h1.2.2.2⟩
      · show m.pop.2.s.over = _; rw [h1.2.1]
      · show m.pop.2.s.winner = _; rw [h1.2.1]
    · rw [h1.2.1]; exact ⟨h1.1, rfl, rfl, h1.2.2.1, h1.2.2.2⟩
  · rw [doP_rand e]; exact ⟨rfl, rfl, rfl, rfl, rfl⟩

/-- one op: the document's machine falls where the machine falls, and else stays the same -/
theorem does_same {op arg : Int} {n : Nat} {m : VM} (hop : 1 ≤ op ∧ op ≤ 22) (h20 : op ≠ 20) (h22 : op ≠ 22) (hb : m.bad = false) (hst : m.st.length ≤ 32) :
    ((doP op arg { m with pc := m.pc + 1 }).bad = true → Fell m (doesP op arg n (rm m))) ∧
    ((doP op arg { m with pc := m.pc + 1 }).bad = false → doesP op arg n (rm m) = (decide ((doP op arg { m with pc := m.pc + 1 }).pc < n), rm (doP op arg { m with pc := m.pc + 1 }))) := by
  obtain ⟨s, i0, i1, st, pc, en, bd⟩ := m
  simp only at hb hst
  subst hb
  have hc : op = 1 ∨ op = 2 ∨ op = 3 ∨ (4 ≤ op ∧ op ≤ 11) ∨ op = 12 ∨ op = 13 ∨ op = 14 ∨ op = 15 ∨ op = 16 ∨ op = 17 ∨ op = 18 ∨ op = 19 ∨ op = 21 := by omega
  show ((doP op arg ⟨s, i0, i1, st, pc + 1, en, false⟩).bad = true → Fell ⟨s, i0, i1, st, pc, en, false⟩ (doesP op arg n (rm ⟨s, i0, i1, st, pc, en, false⟩))) ∧
      ((doP op arg ⟨s, i0, i1, st, pc + 1, en, false⟩).bad = false → doesP op arg n (rm ⟨s, i0, i1, st, pc, en, false⟩) = (decide ((doP op arg ⟨s, i0, i1, st, pc + 1, en, false⟩).pc < n), rm (doP op arg ⟨s, i0, i1, st, pc + 1, en, false⟩)))
  have few : st.length < takesP op → (doP op arg ⟨s, i0, i1, st, pc + 1, en, false⟩).bad = true →
      ((doP op arg ⟨s, i0, i1, st, pc + 1, en, false⟩).bad = true → Fell ⟨s, i0, i1, st, pc, en, false⟩ (doesP op arg n (rm ⟨s, i0, i1, st, pc, en, false⟩))) ∧
      ((doP op arg ⟨s, i0, i1, st, pc + 1, en, false⟩).bad = false → doesP op arg n (rm ⟨s, i0, i1, st, pc, en, false⟩) = (decide ((doP op arg ⟨s, i0, i1, st, pc + 1, en, false⟩).pc < n), rm (doP op arg ⟨s, i0, i1, st, pc + 1, en, false⟩))) := by
    intro h1 h2
    refine ⟨fun _ => ?_, fun h3 => (by rw [h2] at h3; cases h3)⟩
    rw [doesP_few (m := rm ⟨s, i0, i1, st, pc, en, false⟩) h1]
    exact ⟨rfl, rfl, rfl, rfl, rfl, rfl⟩
  have enough : takesP op ≤ st.length → doesP op arg n (rm ⟨s, i0, i1, st, pc, en, false⟩) = (!(actP op arg ⟨s, i0, i1, st, pc + 1, -1, false⟩).bad && decide ((actP op arg ⟨s, i0, i1, st, pc + 1, -1, false⟩).pc < n), actP op arg ⟨s, i0, i1, st, pc + 1, -1, false⟩) := by
    intro h1
    exact doesP_act (m := rm ⟨s, i0, i1, st, pc, en, false⟩) (by show ¬ st.length < takesP op; omega) h20 h22
  -- what is left where nothing is undone
  have keep : takesP op ≤ st.length → (doP op arg ⟨s, i0, i1, st, pc + 1, en, false⟩).bad = false → actP op arg ⟨s, i0, i1, st, pc + 1, -1, false⟩ = rm (doP op arg ⟨s, i0, i1, st, pc + 1, en, false⟩) →
      ((doP op arg ⟨s, i0, i1, st, pc + 1, en, false⟩).bad = true → Fell ⟨s, i0, i1, st, pc, en, false⟩ (doesP op arg n (rm ⟨s, i0, i1, st, pc, en, false⟩))) ∧
      ((doP op arg ⟨s, i0, i1, st, pc + 1, en, false⟩).bad = false → doesP op arg n (rm ⟨s, i0, i1, st, pc, en, false⟩) = (decide ((doP op arg ⟨s, i0, i1, st, pc + 1, en, false⟩).pc < n), rm (doP op arg ⟨s, i0, i1, st, pc + 1, en, false⟩))) := by
    intro h1 h2 h3
    refine ⟨fun h4 => (by rw [h2] at h4; cases h4), fun _ => ?_⟩
    rw [enough h1, h3]
    rfl
  -- one push
  have one : ∀ (s' : VS) (v : Int) (st' : List Int), takesP op ≤ st.length → s'.frame = s.frame ∧ s'.over = s.over ∧ s'.winner = s.winner ∧ s'.cells.length = s.cells.length →
      doP op arg ⟨s, i0, i1, st, pc + 1, en, false⟩ = VM.push ⟨s', i0, i1, st', pc + 1, en, false⟩ v → actP op arg ⟨s, i0, i1, st, pc + 1, -1, false⟩ = RM.push ⟨s', i0, i1, st', pc + 1, -1, false⟩ v →
      ((doP op arg ⟨s, i0, i1, st, pc + 1, en, false⟩).bad = true → Fell ⟨s, i0, i1, st, pc, en, false⟩ (doesP op arg n (rm ⟨s, i0, i1, st, pc, en, false⟩))) ∧
      ((doP op arg ⟨s, i0, i1, st, pc + 1, en, false⟩).bad = false → doesP op arg n (rm ⟨s, i0, i1, st, pc, en, false⟩) = (decide ((doP op arg ⟨s, i0, i1, st, pc + 1, en, false⟩).pc < n), rm (doP op arg ⟨s, i0, i1, st, pc + 1, en, false⟩))) := by
    intro s' v st' h0 hs h1 h2
    by_cases h : 32 ≤ st'.length
    · have e2 : RM.push ⟨s', i0, i1, st', pc + 1, -1, false⟩ v = ⟨s', i0, i1, st', pc + 1, -1, true⟩ := by unfold RM.push; rw [if_pos h]
      refine ⟨fun _ => ?_, fun hx => ?_⟩
      · rw [enough h0, h2, e2]
        exact ⟨rfl, rfl, hs.1, hs.2.1, hs.2.2.1, hs.2.2.2⟩
      · rw [h1] at hx
        simp [VM.push] at hx
        omega
    · refine keep h0 ?_ ?_
      · rw [h1]; simp [VM.push]; omega
      · rw [h1, h2]
        unfold RM.push VM.push rm
        rw [if_neg h]
  rcases hc with rfl | rfl | rfl | e | rfl | rfl | rfl | rfl | rfl | rfl | rfl | rfl | rfl
  · exact one s arg st (Nat.zero_le _) ⟨rfl, rfl, rfl, rfl⟩ (doP_push rfl) rfl
  · exact one s _ st (Nat.zero_le _) ⟨rfl, rfl, rfl, rfl⟩ (doP_load rfl) rfl
  · cases st with
    | nil => exact few (by decide) (by rw [doP_store rfl]; rfl)
    | cons v r => exact keep (by show 1 ≤ r.length + 1; omega) (by rw [doP_store rfl]; rfl) (by rw [doP_store rfl]; rfl)
  · have ht : takesP op = 2 := by unfold takesP; rw [if_neg (by omega), if_pos (by omega)]
    have ha : ∀ m, actP op arg m = m.pop.2.pop.2.push (op2 op m.pop.2.pop.1 m.pop.1) := by
      intro m
      unfold actP
      rw [if_neg (by omega), if_neg (by omega), if_neg (by omega), if_pos (by omega)]
    match st, few, one with
    | [], few, _ => exact few (by rw [ht]; decide) (by rw [doP_two e]; rfl)
    | [v], few, _ => exact few (by rw [ht]; show 1 < 2; decide) (by rw [doP_two e]; rfl)
    | v :: u :: r, _, one => exact one s _ r (by rw [ht]; show 2 ≤ r.length + 1 + 1; omega) ⟨rfl, rfl, rfl, rfl⟩ (by rw [doP_two e]; rfl) (by rw [ha]; rfl)
  · cases st with
    | nil => exact few (by decide) (by rw [doP_not rfl]; rfl)
    | cons v r => exact one s _ r (by show 1 ≤ r.length + 1; omega) ⟨rfl, rfl, rfl, rfl⟩ (by rw [doP_not rfl]; rfl) rfl
  · cases st with
    | nil => exact few (by decide) (by rw [doP_dup rfl]; rfl)
    | cons v r =>
      have hr : r.length + 1 ≤ 32 := hst
      have e0 : RM.push ⟨s, i0, i1, r, pc + 1, -1, false⟩ v = ⟨s, i0, i1, v :: r, pc + 1, -1, false⟩ := by unfold RM.push; rw [if_neg (by show ¬ 32 ≤ r.length; omega)]
      have e9 : (doP 13 arg ⟨s, i0, i1, v :: r, pc + 1, en, false⟩).bad = decide (32 < r.length + 2) := by rw [doP_dup rfl]; rfl
      by_cases h : 32 ≤ r.length + 1
      · have e1 : RM.push ⟨s, i0, i1, v :: r, pc + 1, -1, false⟩ v = ⟨s, i0, i1, v :: r, pc + 1, -1, true⟩ := by unfold RM.push; rw [if_pos (by show 32 ≤ r.length + 1; omega)]
        have e2 : actP 13 arg ⟨s, i0, i1, v :: r, pc + 1, -1, false⟩ = RM.push (RM.push ⟨s, i0, i1, r, pc + 1, -1, false⟩ v) v := rfl
        refine ⟨fun _ => ?_, fun hx => ?_⟩
        · rw [enough (by show 1 ≤ r.length + 1; omega), e2, e0, e1]
          exact ⟨rfl, rfl, rfl, rfl, rfl, rfl⟩
        · rw [e9] at hx
          have := of_decide_eq_false hx
          omega
      · have e1 : RM.push ⟨s, i0, i1, v :: r, pc + 1, -1, false⟩ v = ⟨s, i0, i1, v :: v :: r, pc + 1, -1, false⟩ := by unfold RM.push; rw [if_neg (by show ¬ 32 ≤ r.length + 1; omega)]
        have e2 : actP 13 arg ⟨s, i0, i1, v :: r, pc + 1, -1, false⟩ = RM.push (RM.push ⟨s, i0, i1, r, pc + 1, -1, false⟩ v) v := rfl
        refine keep (by show 1 ≤ r.length + 1; omega) ?_ ?_
        · rw [e9]; exact decide_eq_false (by omega)
        · rw [e2, e0, e1, doP_dup rfl]; rfl
  · match st, few, keep, hst with
    | [], few, _, _ => exact few (by decide) (by rw [doP_swap rfl]; rfl)
    | [v], few, _, _ => exact few (by show 1 < 2; decide) (by rw [doP_swap rfl]; rfl)
    | v :: u :: r, _, keep, hst =>
      have hr : r.length + 1 + 1 ≤ 32 := hst
      have e0 : RM.push ⟨s, i0, i1, r, pc + 1, -1, false⟩ v = ⟨s, i0, i1, v :: r, pc + 1, -1, false⟩ := by unfold RM.push; rw [if_neg (by show ¬ 32 ≤ r.length; omega)]
      have e1 : RM.push ⟨s, i0, i1, v :: r, pc + 1, -1, false⟩ u = ⟨s, i0, i1, u :: v :: r, pc + 1, -1, false⟩ := by unfold RM.push; rw [if_neg (by show ¬ 32 ≤ r.length + 1; omega)]
      have e9 : (doP 14 arg ⟨s, i0, i1, v :: u :: r, pc + 1, en, false⟩).bad = decide (32 < r.length + 2) := by rw [doP_swap rfl]; rfl
      have e2 : actP 14 arg ⟨s, i0, i1, v :: u :: r, pc + 1, -1, false⟩ = RM.push (RM.push ⟨s, i0, i1, r, pc + 1, -1, false⟩ v) u := rfl
      refine keep (by show 2 ≤ r.length + 1 + 1; omega) ?_ ?_
      · rw [e9]; exact decide_eq_false (by omega)
      · rw [e2, e0, e1, doP_swap rfl]; rfl
  · cases st with
    | nil => exact few (by decide) (by rw [doP_drop rfl]; rfl)
    | cons v r => exact keep (by show 1 ≤ r.length + 1; omega) (by rw [doP_drop rfl]; rfl) (by rw [doP_drop rfl]; rfl)
  · exact one s _ st (Nat.zero_le _) ⟨rfl, rfl, rfl, rfl⟩ (doP_input rfl) rfl
  · exact one s _ st (Nat.zero_le _) ⟨rfl, rfl, rfl, rfl⟩ (doP_frame rfl) rfl
  · exact keep (Nat.zero_le _) (by rw [doP_jump rfl]) (by rw [doP_jump rfl]; rfl)
  · cases st with
    | nil =>
      refine few (by decide) ?_
      rw [doP_zero rfl]
      split <;> rfl
    | cons v r =>
      by_cases hv : v = 0
      · subst hv
        exact keep (by show 1 ≤ r.length + 1; omega) (by rw [doP_zero rfl]; rfl) (by rw [doP_zero rfl]; rfl)
      · have e1 : doP 19 arg ⟨s, i0, i1, v :: r, pc + 1, en, false⟩ = ⟨s, i0, i1, r, pc + 1, en, false⟩ := by rw [doP_zero rfl]; exact if_neg hv
        have e2 : actP 19 arg ⟨s, i0, i1, v :: r, pc + 1, -1, false⟩ = ⟨s, i0, i1, r, pc + 1, -1, false⟩ := if_neg hv
        exact keep (by show 1 ≤ r.length + 1; omega) (by rw [e1]) (by rw [e1, e2]; rfl)
  · exact one { s with seed := nextSeed s.seed } _ st (Nat.zero_le _) ⟨rfl, rfl, rfl, rfl⟩ (doP_rand rfl) rfl
end Go.Vm
