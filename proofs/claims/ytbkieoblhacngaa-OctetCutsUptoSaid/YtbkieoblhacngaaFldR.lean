/-
  octet: the document's bytes of a field, read back.
-/
import Derived.Test.YtbkieoblhacngaaFldW
import Derived.Test.YtbkieoblhacngaaOctQ
namespace Go.Proofs.Ytbkieoblhacngaa
open Go.RowKit Go.Sep Go.Oct

theorem fb_length {w : World} {f : Fd} (hf : Good w f) : (fb f).length ≤ 32 + f.len := by
  have h1 := num_length f.n
  have h2 := num_length (f.bs.length : Int)
  have h3 := hf.len
  have h4 := hf.h
  unfold fb
  split
  · simp; omega
  · split
    · simp; omega
    · split
      · simp; omega
      · split
        · omega
        · split
          · rw [List.length_append]; omega
          · omega

theorem fb_bytes {w : World} {f : Fd} (hf : Good w f) (hl : f.len ≤ 3000) : Bytes (fb f) := by
  have hn := hf.n
  have h3 := hf.len
  unfold fb
  split
  · intro x hx; simp at hx; omega
  · split
    · intro x hx; simp at hx; omega
    · split
      · intro x hx; simp at hx; omega
      · split
        · exact num_bytes hn.1 hn.2
        · split
          · exact (num_bytes (by omega) (by omega)).append hf.bb
          · exact hf.hb

theorem tk_exact (a r : List Int) : tk a.length (a ++ r) 0 = (a, r, 0) := by
  rw [tk_ge (by simp), List.take_left', List.drop_left'] <;> rfl

theorem rd_one {f : Fd} (k : f.kind = 1) (r : List Int) : tk 1 (fb f ++ r) 0 = ([f.n % 256], r, 0) ∧ le [f.n % 256] = f.n % 256 := by
  have e : fb f = [f.n % 256] := by unfold fb; rw [if_pos k]
  rw [e]
  exact ⟨tk_exact [f.n % 256] r, by simp [le]⟩
theorem rd_two {f : Fd} (k : f.kind = 2) (r : List Int) : tk 2 (fb f ++ r) 0 = ([f.n % 65536 % 256, f.n % 65536 / 256], r, 0) ∧ le [f.n % 65536 % 256, f.n % 65536 / 256] = f.n % 65536 := by
  have e : fb f = [f.n % 65536 % 256, f.n % 65536 / 256] := by unfold fb; rw [if_neg (by omega), if_pos k]
  rw [e]
  exact ⟨tk_exact [f.n % 65536 % 256, f.n % 65536 / 256] r, by simp [le]; omega⟩
theorem rd_four {f : Fd} (k : f.kind = 3) (r : List Int) : ∃ a, tk 4 (fb f ++ r) 0 = (a, r, 0) ∧ le a = f.n % 4294967296 := by
  have e : fb f = [f.n % 4294967296 % 256, f.n % 4294967296 / 256 % 256, f.n % 4294967296 / 65536 % 256, f.n % 4294967296 / 16777216] := by unfold fb; rw [if_neg (by omega), if_neg (by omega), if_pos k]
  rw [e]
  exact ⟨_, tk_exact [f.n % 4294967296 % 256, f.n % 4294967296 / 256 % 256, f.n % 4294967296 / 65536 % 256, f.n % 4294967296 / 16777216] r, by simp [le]; omega⟩
theorem rd_num {w : World} {f : Fd} (hf : Good w f) (k : f.kind = 4) (r : List Int) : rdNum (fb f ++ r) 0 = (f.n, r, 0) := by
  have e : fb f = num f.n := by unfold fb; rw [if_neg (by omega), if_neg (by omega), if_neg (by omega), if_pos k]
  rw [e]
  exact rdNum_num hf.n.1 hf.n.2 r
theorem rd_bytes {w : World} {f : Fd} (hf : Good w f) (hl : f.len ≤ 3000) (k : f.kind = 5) (r : List Int) : rdBytes (fb f ++ r) 0 = (f.bs, r, 0) := by
  have e : fb f = num f.bs.length ++ f.bs := by unfold fb; rw [if_neg (by omega), if_neg (by omega), if_neg (by omega), if_neg (by omega), if_pos k]
  have h3 := hf.len
  have hN : rdNum (num f.bs.length ++ (f.bs ++ r)) 0 = ((f.bs.length : Int), f.bs ++ r, 0) := rdNum_num (by omega) (by omega) _
  rw [e, List.append_assoc, rdBytes_ok (by rw [hN]; simp only; omega), hN]
  exact tk_exact f.bs r
theorem rd_hash {w : World} {f : Fd} (hf : Good w f) (k1 : f.kind ≠ 1) (k2 : f.kind ≠ 2) (k3 : f.kind ≠ 3) (k4 : f.kind ≠ 4) (k5 : f.kind ≠ 5) (r : List Int) : rdHash (fb f ++ r) 0 = (f.h, r, 0) := by
  have e : fb f = f.h := by unfold fb; rw [if_neg k1, if_neg k2, if_neg k3, if_neg k4, if_neg k5]
  have h := tk_exact f.h r
  rw [hf.h] at h
  unfold rdHash
  rw [e, h, hf.h]
  simp

/-- the bytes of a row of fields -/
def fbs (l : List Fd) : List Int := (l.map fb).flatten
theorem fbs_snoc (l : List Fd) (f : Fd) : fbs (l ++ [f]) = fbs l ++ fb f := by simp [fbs]
theorem fbs_append_one (l : List Fd) (f : Fd) : fbs (l ++ (some f).toList) = fbs l ++ fb f := fbs_snoc l f
theorem fbs_cons (l : List Fd) (f : Fd) : fbs (f :: l) = fb f ++ fbs l := rfl
theorem fbs_drop {l : List Fd} {k : Nat} {f : Fd} (h : l[k]? = some f) : fbs (f :: l.drop (k + 1)) = fbs (l.drop k) := by
  obtain ⟨h1, h2⟩ := List.getElem?_eq_some_iff.1 h
  rw [← h2, List.getElem_cons_drop]
theorem fbs_length {w : World} : ∀ {l : List Fd}, (∀ f ∈ l, Good w f) → (fbs l).length ≤ 32 * l.length + sumL l
  | [], _ => by simp [fbs, sumL]
  | f :: r, h => by
    have h1 := fb_length (h f (by simp))
    have h2 := fbs_length (l := r) (fun g hg => h g (by simp [hg]))
    rw [fbs_cons, List.length_append]
    simp only [sumL, List.map_cons, List.sum_cons, List.length_cons] at h2 ⊢
    omega
theorem fbs_bytes {w : World} : ∀ {l : List Fd}, (∀ f ∈ l, Good w f) → (∀ f ∈ l, f.len ≤ 3000) → Bytes (fbs l)
  | [], _, _ => fun x hx => by simp [fbs] at hx
  | f :: r, h, hl => by
    rw [fbs_cons]
    exact (fb_bytes (h f (by simp)) (hl f (by simp))).append (fbs_bytes (l := r) (fun g hg => h g (by simp [hg])) (fun g hg => hl g (by simp [hg])))
theorem sumL_ge : ∀ (l : List Fd), 10 * l.length ≤ sumL l ∧ ∀ f ∈ l, f.len ≤ sumL l
  | [] => ⟨by simp [sumL], fun f hf => by simp at hf⟩
  | g :: r => by
    obtain ⟨h1, h2⟩ := sumL_ge r
    simp only [sumL, List.map_cons, List.sum_cons, List.length_cons] at h1 h2 ⊢
    refine ⟨by omega, fun f hf => ?_⟩
    rcases List.mem_cons.1 hf with rfl | hf
    · omega
    · have := h2 f hf; omega
end Go.Proofs.Ytbkieoblhacngaa
