/-
  duel, plain: frame by frame, and the states on the way.
-/
import Derived.Test.YtjdeeloemhjbhaaGreatQVmW5
import Derived.Test.YtjdeeloemhjbhaaGreatQVmJ
import Derived.Test.YtjdeeloemhjbhaaGreatQVmK0

namespace Go.Proofs.YtjdeeloemhjbhaaGreat
open Go.RowKit Go.Sep Go.Vm

theorem dseed_ne {x : Int} (hx : 0 ≤ x ∧ x < 4294967296) (h : x ≠ 0) : nextSeed x ≠ 0 := by
  have z : ∀ {a b : Int}, 0 ≤ a ∧ a < 4294967296 → 0 ≤ b ∧ b < 4294967296 → bits .xor .u32 a b = 0 → a = b := by
    intro a b ha hb h0
    rw [u32_xor _ _ ha.1 ha.2 hb.1 hb.2] at h0
    have h1 : a.toNat ^^^ b.toNat = 0 := by omega
    have h2 : a.toNat = b.toNat := by
      have h3 : (a.toNat ^^^ b.toNat) ^^^ b.toNat = 0 ^^^ b.toNat := by rw [h1]
      rwa [Nat.xor_assoc, Nat.xor_self, Nat.xor_zero, Nat.zero_xor] at h3
    omega
  have h1 : xs13 x ≠ 0 := by
    intro h0
    have := z hx (by omega) h0
    omega
  have c1 : 0 ≤ xs13 x ∧ xs13 x < 4294967296 := xor_u32 hx (by omega)
  have h2 : xs17 (xs13 x) ≠ 0 := by
    intro h0
    have := z c1 (by omega) h0
    omega
  have c2 : 0 ≤ xs17 (xs13 x) ∧ xs17 (xs13 x) < 4294967296 := xor_u32 c1 (by omega)
  intro h0
  have := z c2 (by omega) h0
  omega

theorem doP_seed {op arg : Int} {m : VM} (h21 : op ≠ 21) (h3 : 1 ≤ op ∧ op ≤ 22) : (doP op arg m).s.seed = m.s.seed := by
  have hp : ∀ m : VM, m.pop.2.s = m.s := by
    intro m; unfold VM.pop; split <;> rfl
  have h1 := hp m
  have h2 := hp m.pop.2
  have hc : op = 1 ∨ op = 2 ∨ op = 3 ∨ (4 ≤ op ∧ op ≤ 11) ∨ op = 12 ∨ op = 13 ∨ op = 14 ∨ op = 15 ∨ op = 16 ∨ op = 17 ∨ op = 18 ∨ op = 19 ∨ op = 20 ∨ op = 22 := by omega
  rcases hc with e | e | e | e | e | e | e | e | e | e | e | e | e | e
  · rw [doP_push e]; rfl
  · rw [doP_load e]; rfl
  · rw [doP_store e]; show m.pop.2.s.seed = _; rw [h1]
  · rw [doP_two e]; show m.pop.2.pop.2.s.seed = _; rw [h2, h1]
  · rw [doP_not e]; show m.pop.2.s.seed = _; rw [h1]
  · rw [doP_dup e]; show m.pop.2.s.seed = _; rw [h1]
  · rw [doP_swap e]; show m.pop.2.pop.2.s.seed = _; rw [h2, h1]
  · rw [doP_drop e, h1]
  · rw [doP_input e]; rfl
  · rw [doP_frame e]; rfl
  · rw [doP_jump e]
  · rw [doP_zero e]
    split
    · show m.pop.2.s.seed = _; rw [h1]
    · rw [h1]
  · rw [doP_win e]
  · rw [doP_halt e]

/-- what holds of a state all along -/
def Sane (s : VS) : Prop := s.seed ≠ 0 ∧ 0 ≤ s.winner ∧ s.winner ≤ 2 ∧ (s.over = true ∨ s.winner = 0)

theorem doP_sane {op arg : Int} {n : Nat} {m : VM} (hm : mayP op arg n = true) (hs : 0 ≤ m.s.seed ∧ m.s.seed < 4294967296) (h : Sane m.s) : Sane (doP op arg m).s := by
  have hop := may_op hm
  by_cases h20 : op = 20
  · subst h20
    rw [doP_win rfl]
    unfold mayP at hm
    simp at hm
    exact ⟨h.1, hm.1, hm.2, .inl rfl⟩
  by_cases h22 : op = 22
  · subst h22
    rw [doP_halt rfl]
    exact h
  have hn := doP_ne (arg := arg) (m := m) h20 h22 hop
  refine ⟨?_, by rw [hn.2.2.1]; exact h.2.1, by rw [hn.2.2.1]; exact h.2.2.1, by rw [hn.2.1, hn.2.2.1]; exact h.2.2.2⟩
  by_cases h21 : op = 21
  · rw [doP_rand h21]; exact dseed_ne hs h.1
  · rw [doP_seed h21 hop]; exact h.1

theorem runP_sane {code : List (Int × Int)} (hv : ∀ (k : Nat) (x : Int × Int), code[k]? = some x → mayP x.1 x.2 code.length = true) :
    ∀ (fuel : Nat) (m : VM), m.Ok → 0 ≤ m.pc → m.pc ≤ code.length → m.st.length ≤ 32 → Sane m.s → Sane (runP code fuel m).2.s := by
  intro fuel
  induction fuel with
  | zero =>
    intro m hM h0 hn hs hI
    by_cases h : m.pc < code.length ∧ m.ended = false
    · rw [runP_dry h]; exact hI
    · rw [runP_stop h]; exact hI
  | succ f ih =>
    intro m hM h0 hn hs hS
    by_cases h : m.pc < code.length ∧ m.ended = false
    · obtain ⟨k, hk⟩ : ∃ k : Nat, m.pc = (k : Int) := ⟨m.pc.toNat, by omega⟩
      have hkl : k < code.length := by have := h.1; omega
      have hx : code[m.pc.toNat]? = some code[k] := by rw [hk]; exact List.getElem?_eq_getElem hkl
      have hmay := hv k _ (List.getElem?_eq_getElem hkl)
      have hK : Kept code.length { m with pc := m.pc + 1 } (doP code[k].1 code[k].2 { m with pc := m.pc + 1 }) :=
        doP_kept hmay ⟨hM.s, hM.i0, hM.i1, hM.st, hM.frame⟩ (by show 0 ≤ m.pc + 1; omega) (by show m.pc + 1 ≤ code.length; omega) hs
      have hI := doP_sane (m := { m with pc := m.pc + 1 }) hmay hM.s.seed hS
      cases hb : (doP code[k].1 code[k].2 { m with pc := m.pc + 1 }).bad with
      | true => rw [runP_bad h hx hb]; exact hI
      | false =>
        rw [runP_more h hx hb]
        exact ih _ hK.ok hK.pc0 hK.pcn (hK.st hb) hI
    · rw [runP_stop h]; exact hS

/-- a state that is gone on from -/
structure Goes (cap : Int) (s : VS) : Prop where
  ok : s.Ok
  sane : Sane s
  frame : 0 ≤ s.frame ∧ s.frame ≤ cap
  room : s.over = false → s.frame < cap

theorem goes_start {code : List (Int × Int)} {cap fuel seed : Int} (hk : checkP code cap fuel = 0) (hs : 0 ≤ seed ∧ seed < 4294967296) : Goes cap (VS.start seed) := by
  obtain ⟨_, _, hc1, hc2, _, _⟩ := check_ok hk
  refine ⟨?_, ⟨?_, ?_, ?_, .inr rfl⟩, ⟨?_, ?_⟩, fun _ => ?_⟩
  · exact start_ok hs
  · show max 1 seed ≠ 0; omega
  · show (0 : Int) ≤ 0; omega
  · show (0 : Int) ≤ 2; omega
  · show (0 : Int) ≤ 0; omega
  · show (0 : Int) ≤ cap; omega
  · show (0 : Int) < cap; omega

theorem goes_step {code : List (Int × Int)} {cap fuel : Int} {s : VS} {i0 i1 : Int} (hk : checkP code cap fuel = 0) (h : Goes cap s) (ho : s.over = false) (hi0 : 0 ≤ i0 ∧ i0 < 65536) (hi1 : 0 ≤ i1 ∧ i1 < 65536) :
    ∃ t, stepP code cap fuel s i0 i1 = (t, 0) ∧ Goes cap t ∧ t.frame = s.frame + 1 := by
  obtain ⟨hl, hval, hcap1, hcap2, hfu1, hfu2⟩ := check_ok hk
  have hi : isP s = true := by
    unfold isP
    have a := h.frame
    have b := h.sane
    have c : s.winner = 0 := by rcases b.2.2.2 with e | e; rw [ho] at e; cases e; exact e
    simp only [Bool.and_eq_true, Bool.or_eq_true, decide_eq_true_eq]
    exact ⟨a.1, by omega, b.2.1, b.2.2.1, .inr c⟩
  have hroom := h.room ho
  have hst : stepP code cap fuel s i0 i1 = (endP cap (if (runP code fuel.toNat ⟨s, i0, i1, [], 0, false, false⟩).1 then (runP code fuel.toNat ⟨s, i0, i1, [], 0, false, false⟩).2.s else s), 0) := by
    unfold stepP
    rw [if_neg (by rw [hk]; simp), if_neg (by rw [hi]; simp [h.sane.1]), if_neg (by rw [ho]; simp; exact hroom)]
  have hrun := runP_sane (code := code) hval fuel.toNat ⟨s, i0, i1, [], 0, false, false⟩ ⟨h.ok, hi0, hi1, fun c hc => by simp at hc, ⟨h.frame.1, by show s.frame ≤ _; omega⟩⟩ (Int.le_refl _) (by show (0 : Int) ≤ code.length; omega) (Nat.zero_le _) h.sane
  have hok := stepP_ok (code := code) (cap := cap) (fuel := fuel) h.ok hi0 hi1
  obtain ⟨u, hu⟩ : ∃ u, (if (runP code fuel.toNat ⟨s, i0, i1, [], 0, false, false⟩).1 then (runP code fuel.toNat ⟨s, i0, i1, [], 0, false, false⟩).2.s else s) = u := ⟨_, rfl⟩
  have hus : Sane u := by
    rw [← hu]
    split
    · exact hrun
    · exact h.sane
  rw [hu] at hst
  have hnx := stepP_next hst h.ok hi0 hi1
  refine ⟨_, hst, ⟨by rw [hst] at hok; exact hok, ?_, ⟨by omega, by omega⟩, hnx.2.2.1⟩, hnx.1⟩
  unfold endP
  simp only
  split
  · refine ⟨hus.1, ?_, ?_, .inl rfl⟩
    · simp only; split
      · omega
      · split <;> omega
    · simp only; split
      · omega
      · split <;> omega
  · exact hus

/-- the states behind each frame -/
def framesP (code : List (Int × Int)) (cap fuel : Int) : VS → List (Int × Int) → List VS
  | _, [] => []
  | s, x :: l => if s.over = true then [] else (stepP code cap fuel s x.1 x.2).1 :: framesP code cap fuel (stepP code cap fuel s x.1 x.2).1 l
def lastP (s : VS) (l : List VS) : VS := (s :: l).getLast (by simp)

theorem framesP_over {code : List (Int × Int)} {cap fuel : Int} {s : VS} {l : List (Int × Int)} (h : s.over = true) : framesP code cap fuel s l = [] := by
  cases l with
  | nil => rfl
  | cons x l => unfold framesP; rw [if_pos h]
theorem framesP_on {code : List (Int × Int)} {cap fuel : Int} {s t : VS} {l : List (Int × Int)} {k : Nat} {x : Int × Int} {e : Int} (h : s.over = false) (hx : l[k]? = some x) (ht : stepP code cap fuel s x.1 x.2 = (t, e)) :
    framesP code cap fuel s (l.drop k) = t :: framesP code cap fuel t (l.drop (k + 1)) := by
  obtain ⟨hk, rfl⟩ := List.getElem?_eq_some_iff.1 hx
  rw [List.drop_eq_getElem_cons hk, framesP, if_neg (by rw [h]; simp), ht]
theorem lastP_snoc (s : VS) (l : List VS) (t : VS) : lastP s (l ++ [t]) = t := by
  unfold lastP
  rw [List.getLast_cons (by simp), List.getLast_append_of_ne_nil _ (by simp)]
  rfl
theorem framesP_len {code : List (Int × Int)} {cap fuel : Int} : ∀ (l : List (Int × Int)) (s : VS), (framesP code cap fuel s l).length ≤ l.length
  | [], _ => by simp [framesP]
  | x :: l, s => by
    unfold framesP
    split
    · simp
    · have := framesP_len (code := code) (cap := cap) (fuel := fuel) l (stepP code cap fuel s x.1 x.2).1
      simp; omega
end Go.Proofs.YtjdeeloemhjbhaaGreat
