/-
  duel, plain: a game that adds up.
-/
import Derived.Test.YtpcffejanlokiaaDu7
import Derived.Test.YtpcffejanlokiaaVmL
namespace Go.Proofs.Ytpcffejanlokiaa
open Go.RowKit Go.Sep Go.Vm
set_option linter.unusedSimpArgs false

def tot : List (Int × Int) → Int
  | [] => 0
  | x :: r => x.1 + tot r
theorem tot_append : ∀ (a b : List (Int × Int)), tot (a ++ b) = tot a + tot b
  | [], b => by simp [tot]
  | x :: a, b => by simp only [List.cons_append, tot, tot_append a b]; omega
theorem tot_bound : ∀ (l : List (Int × Int)), (∀ x ∈ l, (0 ≤ x.1 ∧ x.1 < 65536) ∧ (0 ≤ x.2 ∧ x.2 < 65536)) → 0 ≤ tot l ∧ tot l ≤ 65535 * l.length
  | [], _ => by simp [tot]
  | x :: r, h => by
    have h1 := h x (by simp)
    have h2 := tot_bound r (fun y hy => h y (by simp [hy]))
    simp only [tot, List.length_cons]
    omega
theorem tot_take {l : List (Int × Int)} {k : Nat} {x : Int × Int} (h : l[k]? = some x) : tot (l.take (k + 1)) = tot (l.take k) + x.1 := by
  obtain ⟨hk, rfl⟩ := List.getElem?_eq_some_iff.1 h
  rw [List.take_succ_eq_append_getElem hk, tot_append]
  simp [tot]
theorem acheck {limit : Int} (h : 1 ≤ limit ∧ limit ≤ 200) : checkP acode limit 9 = 0 :=
  checkP_of (by decide +kernel) (by decide) (by omega) (by omega)
def ast (j sum : Int) : VS := ⟨j, [sum, 0, 0, 0, 0, 0, 0, 0, 0, 0, 0, 0, 0, 0, 0, 0], 1, false, 0⟩
theorem astep {limit j sum i0 i1 : Int} (hl : 1 ≤ limit ∧ limit ≤ 200) (hj : 0 ≤ j ∧ j < limit) (hs : 0 ≤ sum ∧ sum ≤ 1000000000) (hi : 0 ≤ i0 ∧ i0 < 65536) :
    stepP acode limit 9 (ast j sum) i0 i1 = (endP limit (ast j (sum + i0)), 0) := by
  have hr : runP acode (9 : Int).toNat ⟨ast j sum, i0, i1, [], 0, false, false⟩ = (true, ⟨ast j (fadd sum i0), i0, i1, [], 4, false, false⟩) := by kernel_rfl
  have hf : fadd sum i0 = sum + i0 := by unfold fadd held; omega
  have hi : isP (ast j sum) = true := by
    unfold isP ast
    simp only [Bool.and_eq_true, Bool.or_eq_true, decide_eq_true_eq]
    exact ⟨by omega, by omega, by omega, by omega, .inr trivial⟩
  rw [stepP_of (acheck hl) hi (by simp [ast]) rfl (by show j < limit; omega) hr, hf]
  rfl
theorem aend {limit j sum : Int} (h : j + 1 < limit) : endP limit (ast j sum) = ast (j + 1) sum := by
  rw [endP_on (by show j + 1 < limit; exact h)]; rfl
theorem aend_last {limit j sum : Int} (h : j + 1 = limit) : (endP limit (ast j sum)).cells[0]?.getD 0 = sum ∧ (endP limit (ast j sum)).frame = limit ∧ (endP limit (ast j sum)).over = true := by
  unfold endP
  simp only
  rw [if_pos ⟨by show limit ≤ j + 1; omega, rfl⟩]
  exact ⟨rfl, h, rfl⟩
theorem afold {limit : Nat} (hl : 1 ≤ limit ∧ limit ≤ 200) : ∀ (l : List (Int × Int)) (j : Nat) (sum : Int), j < limit → 0 ≤ sum → sum + 65535 * l.length ≤ 1000000000 → (∀ x ∈ l, (0 ≤ x.1 ∧ x.1 < 65536) ∧ (0 ≤ x.2 ∧ x.2 < 65536)) →
    (foldP acode limit 9 (ast j sum) l).cells[0]?.getD 0 = sum + tot (l.take (limit - j)) ∧ (foldP acode limit 9 (ast j sum) l).frame = ((j + min l.length (limit - j) : Nat) : Int) ∧
    (foldP acode limit 9 (ast j sum) l).over = decide (j + min l.length (limit - j) = limit)
  | [], j, sum, hj, _, _, _ => by
    refine ⟨by simp [foldP, ast, tot], by simp [foldP, ast], ?_⟩
    show false = _
    rw [decide_eq_false]
    simp; omega
  | x :: r, j, sum, hj, h0, hb, hp => by
    have hx := hp x (by simp)
    simp only [List.length_cons] at hb
    rw [foldP_on (by rfl), astep (by omega) (by omega) (by omega) hx.1]
    by_cases h1 : j + 1 < limit
    · rw [aend (by omega)]
      have ih := afold hl r (j + 1) (sum + x.1) h1 (by omega) (by omega) (fun y hy => hp y (by simp [hy]))
      rw [show ((j + 1 : Nat) : Int) = (j : Int) + 1 by omega] at ih
      simp only
      rw [ih.1, ih.2.1, ih.2.2]
      refine ⟨?_, ?_, ?_⟩
      · rw [show limit - j = (limit - (j + 1)) + 1 by omega, List.take_succ_cons]
        simp only [tot]; omega
      · congr 1; simp only [List.length_cons]; omega
      · refine decide_eq_decide.2 ?_
        simp only [List.length_cons]; omega
    · have h2 := aend_last (limit := limit) (j := j) (sum := sum + x.1) (by omega)
      simp only
      rw [foldP_over h2.2.2, h2.1, h2.2.1, h2.2.2]
      have hlj : limit - j = 1 := by omega
      rw [hlj]
      refine ⟨by simp [tot], ?_, ?_⟩
      · simp only [List.length_cons]; congr 1; omega
      · rw [decide_eq_true]; simp only [List.length_cons]; omega
end Go.Proofs.Ytpcffejanlokiaa
