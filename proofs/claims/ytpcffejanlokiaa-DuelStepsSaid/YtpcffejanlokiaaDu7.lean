/-
  duel, plain: the fold, in two parts.
-/
import Derived.Test.YtpcffejanlokiaaDu6
import Derived.Test.YtpcffejanlokiaaLaw0
namespace Go.Proofs.Ytpcffejanlokiaa
open Go.RowKit Go.Sep Go.Vm
set_option linter.unusedSimpArgs false

def foldP (code : List (Int × Int)) (cap fuel : Int) : VS → List (Int × Int) → VS
  | s, [] => s
  | s, x :: l => if s.over = true then s else foldP code cap fuel (stepP code cap fuel s x.1 x.2).1 l
section
variable {code : List (Int × Int)} {cap fuel : Int}
theorem foldP_over {s : VS} {l : List (Int × Int)} (h : s.over = true) : foldP code cap fuel s l = s := by
  cases l with
  | nil => rfl
  | cons x l => unfold foldP; rw [if_pos h]
theorem foldP_on {s : VS} {x : Int × Int} {l : List (Int × Int)} (h : s.over = false) : foldP code cap fuel s (x :: l) = foldP code cap fuel (stepP code cap fuel s x.1 x.2).1 l := by
  conv => lhs; unfold foldP
  rw [if_neg (by rw [h]; simp)]
theorem foldP_append : ∀ (a b : List (Int × Int)) (s : VS), foldP code cap fuel s (a ++ b) = foldP code cap fuel (foldP code cap fuel s a) b
  | [], b, s => rfl
  | x :: a, b, s => by
    cases h : s.over with
    | true => rw [foldP_over h, foldP_over h, foldP_over h]
    | false => rw [List.cons_append, foldP_on h, foldP_on h, foldP_append a b]
theorem lastP_fold : ∀ (l : List (Int × Int)) (s : VS), lastP s (framesP code cap fuel s l) = foldP code cap fuel s l
  | [], s => rfl
  | x :: l, s => by
    cases h : s.over with
    | true => rw [framesP_over h, foldP_over h]; rfl
    | false =>
      rw [foldP_on h, ← lastP_fold l, framesP, if_neg (by rw [h]; simp), lastP_cons]
theorem foldP_step {s : VS} {l : List (Int × Int)} {k : Nat} {x : Int × Int} (hx : l[k]? = some x) (h : (foldP code cap fuel s (l.take k)).over = false) :
    foldP code cap fuel s (l.take (k + 1)) = (stepP code cap fuel (foldP code cap fuel s (l.take k)) x.1 x.2).1 := by
  obtain ⟨hk, rfl⟩ := List.getElem?_eq_some_iff.1 hx
  rw [List.take_succ_eq_append_getElem hk, foldP_append, foldP_on h]
  rfl
theorem foldP_end {s : VS} {l : List (Int × Int)} {k : Nat} (h : (foldP code cap fuel s (l.take k)).over = true) : foldP code cap fuel s l = foldP code cap fuel s (l.take k) := by
  conv => lhs; rw [← List.take_append_drop k l, foldP_append, foldP_over h]
theorem foldP_goes (hk : checkP code cap fuel = 0) : ∀ (ps : List (Int × Int)) (s : VS), Goes cap s → (∀ x ∈ ps, (0 ≤ x.1 ∧ x.1 < 65536) ∧ (0 ≤ x.2 ∧ x.2 < 65536)) → Goes cap (foldP code cap fuel s ps)
  | [], _, h, _ => h
  | x :: l, s, hs, hp => by
    cases h : s.over with
    | true => rw [foldP_over h]; exact hs
    | false =>
      rw [foldP_on h]
      have hx := hp x (by simp)
      obtain ⟨u, hu, hg, _⟩ := goes_step hk hs h hx.1 hx.2
      rw [hu]
      exact foldP_goes hk l u hg (fun y hy => hp y (by simp [hy]))
theorem foldP_frame (hk : checkP code cap fuel = 0) : ∀ (ps : List (Int × Int)) (s : VS), Goes cap s → (∀ x ∈ ps, (0 ≤ x.1 ∧ x.1 < 65536) ∧ (0 ≤ x.2 ∧ x.2 < 65536)) → s.frame ≤ (foldP code cap fuel s ps).frame
  | [], s, _, _ => Int.le_refl _
  | x :: l, s, hs, hp => by
    cases h : s.over with
    | true => rw [foldP_over h]; exact Int.le_refl _
    | false =>
      rw [foldP_on h]
      have hx := hp x (by simp)
      obtain ⟨u, hu, hg, hf⟩ := goes_step hk hs h hx.1 hx.2
      rw [hu]
      have := foldP_frame hk l u hg (fun y hy => hp y (by simp [hy]))
      show s.frame ≤ (foldP code cap fuel u l).frame
      omega
theorem playP_fold {seed : Int} {ps : List (Int × Int)} (hk : checkP code cap fuel = 0) : playP code cap fuel seed ps = (foldP code cap fuel (VS.start seed) ps, 0) := by
  unfold playP
  rw [if_pos hk, lastP_fold]
end
theorem mask16 (x : Int) : bits .and .i64 x 65535 = x % 65536 := i64_mask x 65535 16 (by decide +kernel) (by decide)
theorem pairs_take {ps : List (Int × Int)} (k : Nat) : pairsv (ps.take k) = (pairsv ps).take (k * 2) := by
  induction ps generalizing k with
  | nil => simp [pairsv]
  | cons x r ih =>
    cases k with
    | zero => simp [pairsv]
    | succ k =>
      rw [List.take_succ_cons, show pairsv (x :: r.take k) = [Value.int .u16 x.1, .int .u16 x.2] ++ pairsv (r.take k) from rfl, ih, show pairsv (x :: r) = [Value.int .u16 x.1, .int .u16 x.2] ++ pairsv r from rfl, show (k + 1) * 2 = k * 2 + 1 + 1 by omega]
      rfl
end Go.Proofs.Ytpcffejanlokiaa
