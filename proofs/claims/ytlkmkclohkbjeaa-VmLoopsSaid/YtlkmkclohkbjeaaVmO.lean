/-
  vm: a loop that counts down: plain.
-/
import Derived.Test.YtlkmkclohkbjeaaVmL
namespace Go.Vm
open Go.RowKit

def lcode (n : Int) : List (Int × Int) := [(1, n), (3, 5), (2, 5), (19, 13), (2, 5), (1, 1), (5, 0), (3, 5), (2, 6), (1, 3), (4, 0), (3, 6), (18, 2)]
def lst (f x a : Int) : VS := ⟨f, [0, 0, 0, 0, 0, x, a, 0, 0, 0, 0, 0, 0, 0, 0, 0], 1, false, 0⟩
def lm (x a : Int) : VM := ⟨lst 0 x a, 0, 0, [], 2, false, false⟩
theorem ltwo {n x a : Int} (f : Nat) (hx : x ≠ 0) : runP (lcode n) (f + 2) (lm x a) = runP (lcode n) f ⟨lst 0 x a, 0, 0, [], 4, false, false⟩ := by
  have h1 : runP (lcode n) (f + 2) (lm x a) = runP (lcode n) (f + 1) ⟨lst 0 x a, 0, 0, [x], 3, false, false⟩ := rfl
  have hd : doP 19 13 { (⟨lst 0 x a, 0, 0, [x], 3, false, false⟩ : VM) with pc := 3 + 1 } = ⟨lst 0 x a, 0, 0, [], 4, false, false⟩ := by
    show (if x = 0 then _ else _) = _
    rw [if_neg hx]
    rfl
  rw [h1, runP_more (x := (19, 13)) ⟨by show (3 : Int) < 13; omega, rfl⟩ rfl (by rw [hd]), hd]
theorem lnine {n x a : Int} (f : Nat) : runP (lcode n) (f + 9) ⟨lst 0 x a, 0, 0, [], 4, false, false⟩ = runP (lcode n) f (lm (fsub x 1) (fadd a 3)) := by kernel_rfl
theorem lround {n x a : Int} (f : Nat) (hx : 1 ≤ x ∧ x ≤ 100) (ha : 0 ≤ a ∧ a ≤ 1000) : runP (lcode n) (f + 11) (lm x a) = runP (lcode n) f (lm (x - 1) (a + 3)) := by
  rw [show f + 11 = (f + 9) + 2 from rfl, ltwo _ (by omega), lnine]
  rw [show fsub x 1 = x - 1 by unfold fsub held; omega, show fadd a 3 = a + 3 by unfold fadd held; omega]
theorem lend {n a : Int} (f : Nat) : runP (lcode n) (f + 2) (lm 0 a) = (true, ⟨lst 0 0 a, 0, 0, [], 13, false, false⟩) := by
  have h1 : runP (lcode n) (f + 2) (lm 0 a) = runP (lcode n) f ⟨lst 0 0 a, 0, 0, [], 13, false, false⟩ := rfl
  rw [h1, runP_stop (by show ¬((13 : Int) < 13 ∧ _); omega)]
theorem lfull {n : Int} (r : Nat) : ∀ (k : Nat) (a : Int), k ≤ 100 → 0 ≤ a ∧ a + 3 * k ≤ 900 → runP (lcode n) (11 * k + 2 + r) (lm k a) = (true, ⟨lst 0 0 (a + 3 * k), 0, 0, [], 13, false, false⟩)
  | 0, a, _, _ => by
    rw [show 11 * 0 + 2 + r = r + 2 by omega, show ((0 : Nat) : Int) = 0 from rfl, lend]
    simp
  | k + 1, a, hk, ha => by
    rw [show 11 * (k + 1) + 2 + r = (11 * k + 2 + r) + 11 by omega, lround _ (by omega) (by omega), show ((k + 1 : Nat) : Int) - 1 = (k : Int) by omega, lfull r k (a + 3) (by omega) (by omega)]
    congr 3
    omega
theorem ldry {n : Int} : ∀ (k : Nat) (a : Int) (f : Nat), k ≤ 100 → 0 ≤ a ∧ a + 3 * k ≤ 900 → f < 11 * k + 2 → (runP (lcode n) f (lm k a)).1 = false
  | 0, a, f, _, _, hf => by
    rcases (show f = 0 ∨ f = 1 by omega) with rfl | rfl <;> rfl
  | k + 1, a, f, hk, ha, hf => by
    by_cases h11 : 11 ≤ f
    · obtain ⟨g, rfl⟩ : ∃ g, f = g + 11 := ⟨f - 11, by omega⟩
      rw [lround _ (by omega) (by omega), show ((k + 1 : Nat) : Int) - 1 = (k : Int) by omega]
      exact ldry k (a + 3) g (by omega) (by omega) (by omega)
    · by_cases h2 : 2 ≤ f
      · obtain ⟨g, rfl⟩ : ∃ g, f = g + 2 := ⟨f - 2, by omega⟩
        rw [ltwo _ (by omega)]
        rcases (show g = 0 ∨ g = 1 ∨ g = 2 ∨ g = 3 ∨ g = 4 ∨ g = 5 ∨ g = 6 ∨ g = 7 ∨ g = 8 by omega) with rfl | rfl | rfl | rfl | rfl | rfl | rfl | rfl | rfl <;> kernel_rfl
      · rcases (show f = 0 ∨ f = 1 by omega) with rfl | rfl <;> rfl
theorem lstep {n : Nat} {fuel : Int} (hn : 1 ≤ n ∧ n ≤ 100) (hf : 1 ≤ fuel ∧ fuel ≤ 2000) :
    stepP (lcode n) 9 fuel (VS.start 1) 0 0 = (lst 1 0 (if 2 + 11 * n + 2 ≤ fuel then 3 * n else 0), 0) := by
  have hk : checkP (lcode n) 9 fuel = 0 := by
    refine checkP_of ?_ (by simp [lcode]) (by omega) hf
    intro x hx
    simp only [lcode, List.mem_cons, List.not_mem_nil, or_false] at hx
    rcases hx with rfl | rfl | rfl | rfl | rfl | rfl | rfl | rfl | rfl | rfl | rfl | rfl | rfl <;> simp [mayP, lcode] <;> omega
  obtain ⟨F, rfl⟩ : ∃ F : Nat, fuel = (F : Int) := ⟨fuel.toNat, by omega⟩
  have h2 : ∀ f : Nat, runP (lcode n) (f + 2) ⟨VS.start 1, 0, 0, [], 0, false, false⟩ = runP (lcode n) f (lm n 0) := fun f => rfl
  by_cases hc : 2 + 11 * n + 2 ≤ F
  · have hr : runP (lcode n) (F : Int).toNat ⟨VS.start 1, 0, 0, [], 0, false, false⟩ = (true, ⟨lst 0 0 (3 * n), 0, 0, [], 13, false, false⟩) := by
      rw [Int.toNat_natCast, show F = (11 * n + 2 + (F - 2 - 2 - 11 * n)) + 2 by omega, h2, lfull _ n 0 (by omega) (by omega)]
      simp
    have e : (if 2 + 11 * (n : Int) + 2 ≤ (F : Int) then 3 * (n : Int) else 0) = 3 * n := if_pos (by omega)
    rw [stepP_of hk (by decide +kernel) (by decide) rfl (by decide) hr, e]
    rfl
  · obtain ⟨b, m, hr⟩ : ∃ b m, runP (lcode n) (F : Int).toNat ⟨VS.start 1, 0, 0, [], 0, false, false⟩ = (b, m) := ⟨_, _, rfl⟩
    have hb : b = false := by
      have h3 : (runP (lcode n) (F : Int).toNat ⟨VS.start 1, 0, 0, [], 0, false, false⟩).1 = false := by
        rw [Int.toNat_natCast]
        by_cases h1 : F = 1
        · subst h1; rfl
        · rw [show F = (F - 2) + 2 by omega, h2]
          exact ldry n 0 _ (by omega) (by omega) (by omega)
      rw [hr] at h3; exact h3
    subst hb
    have e : (if 2 + 11 * (n : Int) + 2 ≤ (F : Int) then 3 * (n : Int) else 0) = 0 := if_neg (by omega)
    rw [stepP_of hk (by decide +kernel) (by decide) rfl (by decide) hr, e]
    rfl
end Go.Vm
