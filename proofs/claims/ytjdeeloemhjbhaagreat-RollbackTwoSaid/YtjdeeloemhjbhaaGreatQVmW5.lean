/-
  Chapter 10's document, plain: what a frame comes to is what the machine's frame comes to.
-/
import Derived.Test.YtjdeeloemhjbhaaGreatQVmW0

namespace Go.Vm
open Go.RowKit

theorem doP_keep {op arg : Int} {m : VM} (h : op ≠ 20) (h2 : op ≠ 22) (h3 : 1 ≤ op ∧ op ≤ 22) : (doP op arg m).s.frame = m.s.frame := by
  have hp : ∀ m : VM, m.pop.2.s = m.s := by
    intro m; unfold VM.pop; split <;> rfl
  have h1 := hp m
  have h2 := hp m.pop.2
  have hc : op = 1 ∨ op = 2 ∨ op = 3 ∨ (4 ≤ op ∧ op ≤ 11) ∨ op = 12 ∨ op = 13 ∨ op = 14 ∨ op = 15 ∨ op = 16 ∨ op = 17 ∨ op = 18 ∨ op = 19 ∨ op = 21 := by omega
  rcases hc with e | e | e | e | e | e | e | e | e | e | e | e | e
  · rw [doP_push e]; rfl
  · rw [doP_load e]; rfl
  · rw [doP_store e]; show m.pop.2.s.frame = _; rw [h1]
  · rw [doP_two e]; show m.pop.2.pop.2.s.frame = _; rw [h2, h1]
  · rw [doP_not e]; show m.pop.2.s.frame = _; rw [h1]
  · rw [doP_dup e]; show m.pop.2.s.frame = _; rw [h1]
  · rw [doP_swap e]; show m.pop.2.pop.2.s.frame = _; rw [h2, h1]
  · rw [doP_drop e, h1]
  · rw [doP_input e]; rfl
  · rw [doP_frame e]; rfl
  · rw [doP_jump e]
  · rw [doP_zero e]
    split
    · show m.pop.2.s.frame = _; rw [h1]
    · rw [h1]
  · rw [doP_rand e]; rfl

structure Final (s0 : VS) (res : Bool × VM) (fm : RM) : Prop where
  len : fm.s.cells.length = 16
  frame : fm.s.frame = s0.frame
  over : fm.s.over = false
  winner : fm.s.winner = 0
  how : (res.1 = false ∧ fm.bad = true) ∨ (res.1 = true ∧ fm.bad = false ∧ fm.s.cells = res.2.s.cells ∧ fm.s.seed = res.2.s.seed ∧ res.2.s.frame = s0.frame ∧
    ((fm.won = -1 ∧ res.2.s.over = false ∧ res.2.s.winner = 0) ∨ (0 ≤ fm.won ∧ res.2.s.over = true ∧ res.2.s.winner = fm.won)))

theorem Final.of_frame {s0 s1 : VS} {res res' : Bool × VM} {fm : RM} (h : Final s0 res fm) (hf : s0.frame = s1.frame) (hr : res' = res) : Final s1 res' fm := by
  subst hr
  exact ⟨h.len, h.frame.trans hf, h.over, h.winner, by
    rcases h.how with a | ⟨a, b, c, d, e, g⟩
    · exact .inl a
    · exact .inr ⟨a, b, c, d, e.trans hf, g⟩⟩

structure On (n : Nat) (m : VM) : Prop where
  ok : m.Ok
  bad : m.bad = false
  ended : m.ended = false
  over : m.s.over = false
  winner : m.s.winner = 0
  st : m.st.length ≤ 32
  pc : 0 ≤ m.pc ∧ m.pc ≤ n

theorem final_stop {code : List (Int × Int)} {n : Nat} {m : VM} (h : On n m) (fuel : Nat) (hn : code.length = n) (hp : ¬ m.pc < n) : Final m.s (runP code fuel m) (rm m) := by
  rw [runP_stop (by rw [hn]; exact fun x => hp x.1)]
  exact ⟨h.ok.s.len, rfl, h.over, h.winner, .inr ⟨rfl, rfl, rfl, rfl, rfl, .inl ⟨rfl, h.over, h.winner⟩⟩⟩
theorem final_dry {code : List (Int × Int)} {n : Nat} {m : VM} (h : On n m) (hn : code.length = n) (hp : m.pc < n) : Final m.s (runP code 0 m) { rm m with bad := true } := by
  rw [runP_dry ⟨by rw [hn]; exact hp, h.ended⟩]
  exact ⟨h.ok.s.len, rfl, h.over, h.winner, .inl ⟨rfl, rfl⟩⟩
theorem does_step {code : List (Int × Int)} {n : Nat} (hn : code.length = n) {m : VM} (h : On n m) {op arg : Int} (hpc : m.pc < n) (hx : code[m.pc.toNat]? = some (op, arg)) (hmay : mayP op arg n = true) (hop : 1 ≤ op ∧ op ≤ 22) :
    ((doesP op arg n (rm m)).1 = true ∧ ∃ x, (doesP op arg n (rm m)).2 = rm x ∧ On n x ∧ x.s.frame = m.s.frame ∧ ∀ f, runP code (f + 1) m = runP code f x) ∨
    ((doesP op arg n (rm m)).1 = false ∧ ∀ f, Final m.s (runP code (f + 1) m) (doesP op arg n (rm m)).2) := by
  have hrun : m.pc < code.length ∧ m.ended = false := ⟨by rw [hn]; exact hpc, h.ended⟩
  have hok1 : ({ m with pc := m.pc + 1 } : VM).Ok := ⟨h.ok.s, h.ok.i0, h.ok.i1, h.ok.st, h.ok.frame⟩
  have hk := doP_kept (m := { m with pc := m.pc + 1 }) hmay hok1 (by show 0 ≤ m.pc + 1; have := h.pc; omega) (by show m.pc + 1 ≤ n; omega) h.st
  by_cases h20 : op = 20
  · subst h20
    have hx0 : doP 20 arg { m with pc := m.pc + 1 } = { m with pc := m.pc + 1, s := { m.s with over := true, winner := arg }, ended := true } := doP_win rfl
    have ha : 0 ≤ arg := by
      unfold mayP at hmay
      simp at hmay
      exact hmay.1
    refine .inr ⟨by rw [doesP_win], fun f => ?_⟩
    rw [runP_more hrun hx (by rw [hx0]; exact h.bad), hx0, runP_stop (by simp), doesP_win]
    exact ⟨h.ok.s.len, rfl, h.over, h.winner, .inr ⟨rfl, rfl, rfl, rfl, rfl, .inr ⟨ha, rfl, rfl⟩⟩⟩
  by_cases h22 : op = 22
  · subst h22
    have hx0 : doP 22 arg { m with pc := m.pc + 1 } = { m with pc := m.pc + 1, ended := true } := doP_halt rfl
    refine .inr ⟨by rw [doesP_halt], fun f => ?_⟩
    rw [runP_more hrun hx (by rw [hx0]; exact h.bad), hx0, runP_stop (by simp), doesP_halt]
    exact ⟨h.ok.s.len, rfl, h.over, h.winner, .inr ⟨rfl, rfl, rfl, rfl, rfl, .inl ⟨rfl, h.over, h.winner⟩⟩⟩
  have hsame := does_same (arg := arg) (n := n) hop h20 h22 h.bad h.st
  have hne := doP_ne (arg := arg) (m := { m with pc := m.pc + 1 }) h20 h22 hop
  have hfr : (doP op arg { m with pc := m.pc + 1 }).s.frame = m.s.frame := doP_keep h20 h22 hop
  cases hb : (doP op arg { m with pc := m.pc + 1 }).bad with
  | true =>
    have hf := hsame.1 hb
    refine .inr ⟨hf.no, fun f => ?_⟩
    rw [runP_bad hrun hx hb]
    exact ⟨hf.len.trans h.ok.s.len, hf.frame, hf.over.trans h.over, hf.winner.trans h.winner, .inl ⟨rfl, hf.bad⟩⟩
  | false =>
    have hf := hsame.2 hb
    have hon : On n (doP op arg { m with pc := m.pc + 1 }) := ⟨hk.ok, hb, hne.1.trans h.ended, hne.2.1.trans h.over, hne.2.2.1.trans h.winner, hk.st hb, hk.pc0, hk.pcn⟩
    by_cases hp : (doP op arg { m with pc := m.pc + 1 }).pc < n
    · refine .inl ⟨by rw [hf]; exact decide_eq_true hp, _, by rw [hf], hon, hfr, fun f => runP_more hrun hx hb⟩
    · refine .inr ⟨by rw [hf]; exact decide_eq_false hp, fun f => ?_⟩
      rw [runP_more hrun hx hb, hf]
      have := final_stop hon f hn hp
      exact ⟨this.len, this.frame.trans hfr, this.over, this.winner, by
        rcases this.how with a | ⟨a, b, c, d, e, g⟩
        · exact .inl a
        · exact .inr ⟨a, b, c, d, e.trans hfr, g⟩⟩

/-- the document's end of a frame -/
def refEnd (cap : Int) (s : VS) (fm : RM) : VS :=
  let c := if fm.bad then s.cells else fm.s.cells
  let d := if fm.bad then s.seed else fm.s.seed
  let wn := if fm.bad then -1 else fm.won
  if 0 ≤ wn then ⟨fm.s.frame + 1, c, d, true, wn⟩
  else if fm.s.frame + 1 = cap then ⟨fm.s.frame + 1, c, d, true, if c[0]?.getD 0 = c[1]?.getD 0 then 2 else if c[0]?.getD 0 < c[1]?.getD 0 then 1 else 0⟩
  else ⟨fm.s.frame + 1, c, d, false, 0⟩
theorem final_end {cap : Int} {s : VS} {res : Bool × VM} {fm : RM} (H : Final s res fm) (hs : s.over = false) (hw : s.winner = 0) (hc : s.frame < cap) : endP cap (if res.1 then res.2.s else s) = refEnd cap s fm := by
  obtain ⟨f, c, d, o, w⟩ := s
  simp only at hs hw hc
  subst hs hw
  have hfr := H.frame
  simp only at hfr
  have key : ∀ (c : List Int) (d : Int), endP cap ⟨f, c, d, false, 0⟩ = (if f + 1 = cap then ⟨f + 1, c, d, true, if c[0]?.getD 0 = c[1]?.getD 0 then 2 else if c[0]?.getD 0 < c[1]?.getD 0 then 1 else 0⟩ else ⟨f + 1, c, d, false, 0⟩) := by
    intro c d
    unfold endP
    simp only
    by_cases h : f + 1 = cap
    · rw [if_pos ⟨by omega, trivial⟩, if_pos h]
      congr 1
      by_cases h1 : c[1]?.getD 0 < c[0]?.getD 0
      · rw [if_pos h1, if_neg (by omega), if_neg (by omega)]
      · rw [if_neg h1]
        by_cases h2 : c[0]?.getD 0 < c[1]?.getD 0
        · rw [if_pos h2, if_neg (by omega), if_pos h2]
        · rw [if_neg h2, if_pos (by omega)]
    · rw [if_neg (by omega), if_neg h]
  rcases H.how with ⟨a, b⟩ | ⟨a, b, e, g, i, ⟨j, k, l⟩ | ⟨j, k, l⟩⟩
  · rw [a]
    simp only [Bool.false_eq_true, if_false]
    rw [key]
    unfold refEnd
    simp only [b, if_true, hfr]
    rfl
  · obtain ⟨r1, ⟨s2, q0, q1, q2, q3, q4, q5⟩⟩ := res
    obtain ⟨f', c', d', o', w'⟩ := s2
    simp only at a e g i k l
    subst a i k l
    simp only [if_true]
    rw [key]
    unfold refEnd
    simp only [b, e, g, j, hfr]
    rfl
  · obtain ⟨r1, ⟨s2, q0, q1, q2, q3, q4, q5⟩⟩ := res
    obtain ⟨f', c', d', o', w'⟩ := s2
    simp only at a e g i k l
    subst a i k l
    simp only [if_true]
    unfold refEnd endP
    simp only [b, e, g, hfr, Bool.true_eq_false, and_false, if_false, Bool.false_eq_true]
    rw [if_pos j]
end Go.Vm
