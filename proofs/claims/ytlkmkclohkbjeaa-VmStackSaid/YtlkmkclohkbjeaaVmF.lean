/-
  vm: a loop that does not end; many pushes: plain.
-/
import Derived.Test.YtlkmkclohkbjeaaVmL
namespace Go.Vm
open Go.RowKit

def fcode (v cell : Int) : List (Int × Int) := [(1, v), (3, cell), (21, 0), (15, 0), (18, 0)]
theorem fdry {v : Int} {cell : Nat} : ∀ (fuel : Nat) (s : VS) (x : Int),
    (runP (fcode v cell) fuel ⟨s, 0, 0, [], 0, false, false⟩).1 = false ∧ (runP (fcode v cell) fuel ⟨s, 0, 0, [x], 1, false, false⟩).1 = false ∧ (runP (fcode v cell) fuel ⟨s, 0, 0, [], 2, false, false⟩).1 = false ∧
    (runP (fcode v cell) fuel ⟨s, 0, 0, [x], 3, false, false⟩).1 = false ∧ (runP (fcode v cell) fuel ⟨s, 0, 0, [], 4, false, false⟩).1 = false
  | 0, s, x => ⟨rfl, rfl, rfl, rfl, rfl⟩
  | f + 1, s, x => by
    have h0 : runP (fcode v cell) (f + 1) ⟨s, 0, 0, [], 0, false, false⟩ = runP (fcode v cell) f ⟨s, 0, 0, [v], 1, false, false⟩ := rfl
    have h1 : runP (fcode v cell) (f + 1) ⟨s, 0, 0, [x], 1, false, false⟩ = runP (fcode v cell) f ⟨{ s with cells := s.cells.set cell x }, 0, 0, [], 2, false, false⟩ := rfl
    have h2 : runP (fcode v cell) (f + 1) ⟨s, 0, 0, [], 2, false, false⟩ = runP (fcode v cell) f ⟨{ s with seed := nextSeed s.seed }, 0, 0, [nextSeed s.seed % 65536], 3, false, false⟩ := rfl
    have h3 : runP (fcode v cell) (f + 1) ⟨s, 0, 0, [x], 3, false, false⟩ = runP (fcode v cell) f ⟨s, 0, 0, [], 4, false, false⟩ := rfl
    have h4 : runP (fcode v cell) (f + 1) ⟨s, 0, 0, [], 4, false, false⟩ = runP (fcode v cell) f ⟨s, 0, 0, [], 0, false, false⟩ := rfl
    rw [h0, h1, h2, h3, h4]
    exact ⟨(fdry f s v).2.1, (fdry f _ x).2.2.1, (fdry f _ (nextSeed s.seed % 65536)).2.2.2.1, (fdry f s x).2.2.2.2, (fdry f s x).1⟩
theorem fstep {v : Int} {cell : Nat} (hv : -2147483648 ≤ v ∧ v ≤ 2147483647) (hc : cell < 16) {fuel : Int} (hf : 1 ≤ fuel ∧ fuel ≤ 2000) :
    stepP (fcode v cell) 5 fuel (VS.start 7) 0 0 = (⟨1, [0, 0, 0, 0, 0, 0, 0, 0, 0, 0, 0, 0, 0, 0, 0, 0], 7, false, 0⟩, 0) := by
  have hk : checkP (fcode v cell) 5 fuel = 0 := by
    refine checkP_of ?_ (by simp [fcode]) (by omega) hf
    intro x hx
    simp only [fcode, List.mem_cons, List.not_mem_nil, or_false] at hx
    rcases hx with rfl | rfl | rfl | rfl | rfl <;> simp [mayP] <;> omega
  obtain ⟨b, m, hr⟩ : ∃ b m, runP (fcode v cell) fuel.toNat ⟨VS.start 7, 0, 0, [], 0, false, false⟩ = (b, m) := ⟨_, _, rfl⟩
  have hb : b = false := by
    have := (fdry (v := v) (cell := cell) fuel.toNat (VS.start 7) 0).1
    rw [hr] at this; exact this
  subst hb
  rw [stepP_of hk (by decide +kernel) (by decide) rfl (by decide) hr]
  rfl

/-! ### many pushes -/
def scode (n : Nat) (v : Int) : List (Int × Int) := List.replicate n (1, v) ++ [(3, 2)]
theorem scode_len (n : Nat) (v : Int) : (scode n v).length = n + 1 := by simp [scode]
theorem scode_at {n k : Nat} (v : Int) (h : k < n) : (scode n v)[k]? = some (1, v) := by
  unfold scode
  rw [List.getElem?_append_left (by simpa using h)]
  simp [h]
theorem scode_end (n : Nat) (v : Int) : (scode n v)[n]? = some (3, 2) := by
  unfold scode
  rw [List.getElem?_append_right (by simp)]
  simp
theorem spush {n k : Nat} {v : Int} (hk : k < n) (f : Nat) (s : VS) (h32 : k < 32) :
    runP (scode n v) (f + 1) ⟨s, 0, 0, List.replicate k v, k, false, false⟩ = runP (scode n v) f ⟨s, 0, 0, List.replicate (k + 1) v, (k + 1 : Nat), false, false⟩ := by
  have hd : doP 1 v { (⟨s, 0, 0, List.replicate k v, k, false, false⟩ : VM) with pc := (k : Int) + 1 } = ⟨s, 0, 0, List.replicate (k + 1) v, (k + 1 : Nat), false, false⟩ := by
    rw [doP_push rfl]
    unfold VM.push
    simp only [List.length_replicate, Bool.false_or]
    rw [decide_eq_false (by omega)]
    rfl
  rw [runP_more (x := (1, v)) ⟨by rw [scode_len]; show (k : Int) < ((n + 1 : Nat) : Int); omega, rfl⟩ (by show (scode n v)[(k : Int).toNat]? = _; rw [Int.toNat_natCast]; exact scode_at v hk) (by rw [hd]), hd]
theorem srun {n : Nat} {v : Int} (f : Nat) (s : VS) : ∀ k : Nat, k ≤ n → k ≤ 32 → runP (scode n v) (f + k) ⟨s, 0, 0, [], 0, false, false⟩ = runP (scode n v) f ⟨s, 0, 0, List.replicate k v, k, false, false⟩
  | 0, _, _ => rfl
  | k + 1, hn, h32 => by
    rw [show f + (k + 1) = (f + 1) + k by omega, srun (f + 1) s k (by omega) (by omega), spush (by omega) f s (by omega)]
theorem sstep {n : Nat} {v : Int} (hv : -2147483648 ≤ v ∧ v ≤ 2147483647) (h1 : 1 ≤ n) (h60 : n ≤ 60) :
    stepP (scode n v) 5 500 (VS.start 3) 0 0 = (⟨1, [0, 0, if n ≤ 32 then v else 0, 0, 0, 0, 0, 0, 0, 0, 0, 0, 0, 0, 0, 0], 3, false, 0⟩, 0) := by
  have hk : checkP (scode n v) 5 500 = 0 := by
    refine checkP_of ?_ (by rw [scode_len]; omega) (by omega) (by omega)
    intro x hx
    rcases List.mem_append.1 hx with h | h
    · obtain ⟨_, rfl⟩ := List.mem_replicate.1 h
      simp [mayP]; omega
    · simp only [List.mem_cons, List.not_mem_nil, or_false] at h
      subst h
      simp [mayP]
  by_cases h : n ≤ 32
  · have hr : runP (scode n v) (500 : Int).toNat ⟨VS.start 3, 0, 0, [], 0, false, false⟩ = (true, ⟨⟨0, [0, 0, v, 0, 0, 0, 0, 0, 0, 0, 0, 0, 0, 0, 0, 0], 3, false, 0⟩, 0, 0, List.replicate (n - 1) v, ((n : Int) + 1), false, false⟩) := by
      show runP (scode n v) 500 _ = _
      rw [show (500 : Nat) = (499 - n + 1) + n by omega, srun _ _ n (Nat.le_refl _) h]
      obtain ⟨m, rfl⟩ : ∃ m, n = m + 1 := ⟨n - 1, by omega⟩
      have hd : doP 3 2 { (⟨VS.start 3, 0, 0, List.replicate (m + 1) v, (m + 1 : Nat), false, false⟩ : VM) with pc := ((m + 1 : Nat) : Int) + 1 } = ⟨⟨0, [0, 0, v, 0, 0, 0, 0, 0, 0, 0, 0, 0, 0, 0, 0, 0], 3, false, 0⟩, 0, 0, List.replicate m v, ((m + 1 : Nat) : Int) + 1, false, false⟩ := by
        rw [doP_store rfl]
        rfl
      rw [runP_more (x := (3, 2)) ⟨by rw [scode_len]; show ((m + 1 : Nat) : Int) < ((m + 1 + 1 : Nat) : Int); omega, rfl⟩ (by show (scode (m + 1) v)[((m + 1 : Nat) : Int).toNat]? = _; rw [Int.toNat_natCast]; exact scode_end _ v) (by rw [hd]), hd]
      rw [runP_stop (by rw [scode_len]; simp)]
      rfl
    rw [stepP_of hk (by decide +kernel) (by decide) rfl (by decide) hr, if_pos h]
    rfl
  · have hd : (doP 1 v { (⟨VS.start 3, 0, 0, List.replicate 32 v, (32 : Nat), false, false⟩ : VM) with pc := ((32 : Nat) : Int) + 1 }).bad = true := by
      rw [doP_push rfl]; rfl
    obtain ⟨m, hm⟩ : ∃ m, runP (scode n v) (500 : Int).toNat ⟨VS.start 3, 0, 0, [], 0, false, false⟩ = (false, m) := by
      have e : runP (scode n v) (500 : Int).toNat ⟨VS.start 3, 0, 0, [], 0, false, false⟩ = runP (scode n v) (467 + 1 + 32) ⟨VS.start 3, 0, 0, [], 0, false, false⟩ := rfl
      rw [e]
      rw [srun _ _ 32 (by omega) (Nat.le_refl _), runP_bad (x := (1, v)) ⟨by rw [scode_len]; show ((32 : Nat) : Int) < ((n + 1 : Nat) : Int); omega, rfl⟩ (by show (scode n v)[((32 : Nat) : Int).toNat]? = _; rw [Int.toNat_natCast]; exact scode_at v (by omega)) hd]
      exact ⟨_, rfl⟩
    rw [stepP_of hk (by decide +kernel) (by decide) rfl (by decide) hm, if_neg h]
    rfl
end Go.Vm
