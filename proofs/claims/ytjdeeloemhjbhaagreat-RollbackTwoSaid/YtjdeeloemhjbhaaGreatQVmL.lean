/-
  vm: the laws' programs, plain: what a step of each comes to.
-/
import Derived.KernelRfl
import Derived.Test.YtjdeeloemhjbhaaGreatQVmD

namespace Go.Vm
open Go.RowKit

theorem checkP_of {code : List (Int × Int)} {cap fuel : Int} (h : ∀ x ∈ code, mayP x.1 x.2 code.length = true) (hl : code.length ≤ 256) (hc : 1 ≤ cap ∧ cap ≤ 600) (hf : 1 ≤ fuel ∧ fuel ≤ 2000) : checkP code cap fuel = 0 := by
  have hb : ∀ (n : Nat) (l : List (Int × Int)), (∀ x ∈ l, mayP x.1 x.2 n = true) → firstBad n l = l.length := by
    intro n l
    induction l with
    | nil => intro _; rfl
    | cons x r ih =>
      intro h
      simp only [firstBad]
      rw [if_pos (h x (by simp)), ih (fun y hy => h y (by simp [hy]))]
      rfl
  have hcode : codeP code = 0 := by
    unfold codeP
    rw [if_neg (by omega), hb _ _ h, if_neg (by omega)]
  unfold checkP
  rw [if_neg (by rw [hcode]; simp), if_neg (by omega)]
theorem stepP_of {code : List (Int × Int)} {cap fuel : Int} {s : VS} {i0 i1 : Int} {b : Bool} {m : VM} (hk : checkP code cap fuel = 0) (hi : isP s = true) (h0 : s.seed ≠ 0) (ho : s.over = false) (hc : s.frame < cap)
    (hr : runP code fuel.toNat ⟨s, i0, i1, [], 0, false, false⟩ = (b, m)) : stepP code cap fuel s i0 i1 = (endP cap (if b then m.s else s), 0) := by
  unfold stepP
  rw [if_neg (by rw [hk]; simp), if_neg (by rw [hi]; simpa using h0), if_neg (by rw [ho]; simp; omega), hr]
theorem endP_on {cap : Int} {s : VS} (h : s.frame + 1 < cap) : endP cap s = { s with frame := s.frame + 1 } := by
  unfold endP
  rw [if_neg (by simp only; omega)]

/-- the seed's numbers: VmRand -/
def rcode : List (Int × Int) := [(21, 0), (3, 4)]
theorem rcheck : checkP rcode 100 9 = 0 := by decide +kernel
theorem rstep {s : VS} (hi : isP s = true) (h0 : s.seed ≠ 0) (ho : s.over = false) (hc : s.frame + 1 < 100) :
    stepP rcode 100 9 s 0 0 = ({ s with frame := s.frame + 1, seed := nextSeed s.seed, cells := s.cells.set 4 (nextSeed s.seed % 65536) }, 0) := by
  have hr : runP rcode (9 : Int).toNat ⟨s, 0, 0, [], 0, false, false⟩ = (true, ⟨{ s with seed := nextSeed s.seed, cells := s.cells.set 4 (nextSeed s.seed % 65536) }, 0, 0, [], 2, false, false⟩) := by kernel_rfl
  rw [stepP_of rcheck hi h0 ho (by omega) hr]
  simp only [if_true]
  rw [endP_on (by simp only; omega)]

/-- VmReads -/
def dcode (cell : Int) : List (Int × Int) := [(16, 0), (3, 0), (16, 1), (3, 1), (17, 0), (3, cell)]
theorem dstep {s : VS} {cell : Nat} (hcell : 2 ≤ cell ∧ cell < 16) {i0 i1 : Int} (hi : isP s = true) (h0 : s.seed ≠ 0) (ho : s.over = false) (hc : s.frame + 1 < 100) :
    stepP (dcode cell) 100 20 s i0 i1 = ({ s with frame := s.frame + 1, cells := ((s.cells.set 0 i0).set 1 i1).set cell s.frame }, 0) := by
  have hk : checkP (dcode cell) 100 20 = 0 := by
    refine checkP_of ?_ (by simp [dcode]) (by omega) (by omega)
    intro x hx
    simp only [dcode, List.mem_cons, List.not_mem_nil, or_false] at hx
    rcases hx with rfl | rfl | rfl | rfl | rfl | rfl <;> simp [mayP]
    omega
  have hr : runP (dcode cell) (20 : Int).toNat ⟨s, i0, i1, [], 0, false, false⟩ = (true, ⟨{ s with cells := ((s.cells.set 0 i0).set 1 i1).set cell s.frame }, i0, i1, [], 6, false, false⟩) := by kernel_rfl
  rw [stepP_of hk hi h0 ho (by omega) hr]
  simp only [if_true]
  rw [endP_on (by simp only; omega)]

/-- VmSwaps -/
def wcode (a b : Int) : List (Int × Int) := [(1, a), (1, b), (14, 0), (3, 2), (13, 0), (3, 3), (12, 0), (3, 4), (1, 9), (15, 0)]
theorem wstep {a b : Int} (ha : -2147483648 ≤ a ∧ a ≤ 2147483647) (hb : -2147483648 ≤ b ∧ b ≤ 2147483647) :
    stepP (wcode a b) 5 20 (VS.start 1) 0 0 = (⟨1, [0, 0, a, b, truth (decide (b = 0)), 0, 0, 0, 0, 0, 0, 0, 0, 0, 0, 0], 1, false, 0⟩, 0) := by
  have hk : checkP (wcode a b) 5 20 = 0 := by
    refine checkP_of ?_ (by simp [wcode]) (by omega) (by omega)
    intro x hx
    simp only [wcode, List.mem_cons, List.not_mem_nil, or_false] at hx
    rcases hx with rfl | rfl | rfl | rfl | rfl | rfl | rfl | rfl | rfl | rfl <;> simp [mayP] <;> omega
  rw [stepP_of (b := true) (m := ⟨⟨0, [0, 0, a, b, truth (decide (b = 0)), 0, 0, 0, 0, 0, 0, 0, 0, 0, 0, 0], 1, false, 0⟩, 0, 0, [], 10, false, false⟩) hk (by decide +kernel) (by decide) rfl (by decide) (by kernel_rfl)]
  rfl

/-- VmOps -/
def ocode (op a b : Int) : List (Int × Int) := [(1, b), (1, a), (op, 0), (3, 5)]
def ocode2 (op a : Int) : List (Int × Int) := [(1, a), (op, 0), (3, 5)]
theorem ostep {op a b : Int} (hop : 4 ≤ op ∧ op ≤ 11) (ha : -2147483648 ≤ a ∧ a ≤ 2147483647) (hb : -2147483648 ≤ b ∧ b ≤ 2147483647) :
    stepP (ocode op a b) 5 10 (VS.start 1) 0 0 = (⟨1, [0, 0, 0, 0, 0, op2 op b a, 0, 0, 0, 0, 0, 0, 0, 0, 0, 0], 1, false, 0⟩, 0) := by
  have hk : checkP (ocode op a b) 5 10 = 0 := by
    refine checkP_of ?_ (by simp [ocode]) (by omega) (by omega)
    intro x hx
    simp only [ocode, List.mem_cons, List.not_mem_nil, or_false] at hx
    rcases hx with rfl | rfl | rfl | rfl
    · simp [mayP]; omega
    · simp [mayP]; omega
    · unfold mayP
      rw [if_neg (by omega), if_neg (by omega), if_neg (by omega), if_neg (by omega), if_neg (by omega)]
      simp; omega
    · simp [mayP]
  have hc : op = 4 ∨ op = 5 ∨ op = 6 ∨ op = 7 ∨ op = 8 ∨ op = 9 ∨ op = 10 ∨ op = 11 := by omega
  rcases hc with rfl | rfl | rfl | rfl | rfl | rfl | rfl | rfl
  · rw [stepP_of (b := true) (m := ⟨⟨0, [0, 0, 0, 0, 0, op2 4 b a, 0, 0, 0, 0, 0, 0, 0, 0, 0, 0], 1, false, 0⟩, 0, 0, [], 4, false, false⟩) hk (by decide +kernel) (by decide) rfl (by decide) (by kernel_rfl)]
    rfl
  · rw [stepP_of (b := true) (m := ⟨⟨0, [0, 0, 0, 0, 0, op2 5 b a, 0, 0, 0, 0, 0, 0, 0, 0, 0, 0], 1, false, 0⟩, 0, 0, [], 4, false, false⟩) hk (by decide +kernel) (by decide) rfl (by decide) (by kernel_rfl)]
    rfl
  · rw [stepP_of (b := true) (m := ⟨⟨0, [0, 0, 0, 0, 0, op2 6 b a, 0, 0, 0, 0, 0, 0, 0, 0, 0, 0], 1, false, 0⟩, 0, 0, [], 4, false, false⟩) hk (by decide +kernel) (by decide) rfl (by decide) (by kernel_rfl)]
    rfl
  · rw [stepP_of (b := true) (m := ⟨⟨0, [0, 0, 0, 0, 0, op2 7 b a, 0, 0, 0, 0, 0, 0, 0, 0, 0, 0], 1, false, 0⟩, 0, 0, [], 4, false, false⟩) hk (by decide +kernel) (by decide) rfl (by decide) (by kernel_rfl)]
    rfl
  · rw [stepP_of (b := true) (m := ⟨⟨0, [0, 0, 0, 0, 0, op2 8 b a, 0, 0, 0, 0, 0, 0, 0, 0, 0, 0], 1, false, 0⟩, 0, 0, [], 4, false, false⟩) hk (by decide +kernel) (by decide) rfl (by decide) (by kernel_rfl)]
    rfl
  · rw [stepP_of (b := true) (m := ⟨⟨0, [0, 0, 0, 0, 0, op2 9 b a, 0, 0, 0, 0, 0, 0, 0, 0, 0, 0], 1, false, 0⟩, 0, 0, [], 4, false, false⟩) hk (by decide +kernel) (by decide) rfl (by decide) (by kernel_rfl)]
    rfl
  · rw [stepP_of (b := true) (m := ⟨⟨0, [0, 0, 0, 0, 0, op2 10 b a, 0, 0, 0, 0, 0, 0, 0, 0, 0, 0], 1, false, 0⟩, 0, 0, [], 4, false, false⟩) hk (by decide +kernel) (by decide) rfl (by decide) (by kernel_rfl)]
    rfl
  · rw [stepP_of (b := true) (m := ⟨⟨0, [0, 0, 0, 0, 0, op2 11 b a, 0, 0, 0, 0, 0, 0, 0, 0, 0, 0], 1, false, 0⟩, 0, 0, [], 4, false, false⟩) hk (by decide +kernel) (by decide) rfl (by decide) (by kernel_rfl)]
    rfl
theorem ostep2 {op a : Int} (hop : 4 ≤ op ∧ op ≤ 11) (ha : -2147483648 ≤ a ∧ a ≤ 2147483647) :
    stepP (ocode2 op a) 5 10 (VS.start 1) 0 0 = (⟨1, [0, 0, 0, 0, 0, 0, 0, 0, 0, 0, 0, 0, 0, 0, 0, 0], 1, false, 0⟩, 0) := by
  have hk : checkP (ocode2 op a) 5 10 = 0 := by
    refine checkP_of ?_ (by simp [ocode2]) (by omega) (by omega)
    intro x hx
    simp only [ocode2, List.mem_cons, List.not_mem_nil, or_false] at hx
    rcases hx with rfl | rfl | rfl
    · simp [mayP]; omega
    · unfold mayP
      rw [if_neg (by omega), if_neg (by omega), if_neg (by omega), if_neg (by omega), if_neg (by omega)]
      simp; omega
    · simp [mayP]
  have hc : op = 4 ∨ op = 5 ∨ op = 6 ∨ op = 7 ∨ op = 8 ∨ op = 9 ∨ op = 10 ∨ op = 11 := by omega
  rcases hc with rfl | rfl | rfl | rfl | rfl | rfl | rfl | rfl
  · rw [stepP_of (b := false) (m := ⟨⟨0, [0, 0, 0, 0, 0, 0, 0, 0, 0, 0, 0, 0, 0, 0, 0, 0], 1, false, 0⟩, 0, 0, [op2 4 0 a], 2, false, true⟩) hk (by decide +kernel) (by decide) rfl (by decide) (by kernel_rfl)]
    rfl
  · rw [stepP_of (b := false) (m := ⟨⟨0, [0, 0, 0, 0, 0, 0, 0, 0, 0, 0, 0, 0, 0, 0, 0, 0], 1, false, 0⟩, 0, 0, [op2 5 0 a], 2, false, true⟩) hk (by decide +kernel) (by decide) rfl (by decide) (by kernel_rfl)]
    rfl
  · rw [stepP_of (b := false) (m := ⟨⟨0, [0, 0, 0, 0, 0, 0, 0, 0, 0, 0, 0, 0, 0, 0, 0, 0], 1, false, 0⟩, 0, 0, [op2 6 0 a], 2, false, true⟩) hk (by decide +kernel) (by decide) rfl (by decide) (by kernel_rfl)]
    rfl
  · rw [stepP_of (b := false) (m := ⟨⟨0, [0, 0, 0, 0, 0, 0, 0, 0, 0, 0, 0, 0, 0, 0, 0, 0], 1, false, 0⟩, 0, 0, [op2 7 0 a], 2, false, true⟩) hk (by decide +kernel) (by decide) rfl (by decide) (by kernel_rfl)]
    rfl
  · rw [stepP_of (b := false) (m := ⟨⟨0, [0, 0, 0, 0, 0, 0, 0, 0, 0, 0, 0, 0, 0, 0, 0, 0], 1, false, 0⟩, 0, 0, [op2 8 0 a], 2, false, true⟩) hk (by decide +kernel) (by decide) rfl (by decide) (by kernel_rfl)]
    rfl
  · rw [stepP_of (b := false) (m := ⟨⟨0, [0, 0, 0, 0, 0, 0, 0, 0, 0, 0, 0, 0, 0, 0, 0, 0], 1, false, 0⟩, 0, 0, [op2 9 0 a], 2, false, true⟩) hk (by decide +kernel) (by decide) rfl (by decide) (by kernel_rfl)]
    rfl
  · rw [stepP_of (b := false) (m := ⟨⟨0, [0, 0, 0, 0, 0, 0, 0, 0, 0, 0, 0, 0, 0, 0, 0, 0], 1, false, 0⟩, 0, 0, [op2 10 0 a], 2, false, true⟩) hk (by decide +kernel) (by decide) rfl (by decide) (by kernel_rfl)]
    rfl
  · rw [stepP_of (b := false) (m := ⟨⟨0, [0, 0, 0, 0, 0, 0, 0, 0, 0, 0, 0, 0, 0, 0, 0, 0], 1, false, 0⟩, 0, 0, [op2 11 0 a], 2, false, true⟩) hk (by decide +kernel) (by decide) rfl (by decide) (by kernel_rfl)]
    rfl
end Go.Vm
