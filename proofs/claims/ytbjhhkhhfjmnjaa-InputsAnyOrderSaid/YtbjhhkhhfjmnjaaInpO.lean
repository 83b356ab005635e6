/-
  inputs: in whatever order it is told, the same is known.
-/
import Derived.Test.YtbjhhkhhfjmnjaaInpG
namespace Go.Inp
open Go.RowKit

abbrev T3 := Int × Int × Int
def rowT (j : Int) (a : List Int) (k : Nat) : List T3 := (List.range k).map fun i : Nat => ((j, (i : Int), a[i]?.getD 0) : T3)
theorem rowT_snoc (j : Int) (a : List Int) (k : Nat) : rowT j a (k + 1) = rowT j a k ++ [(j, (k : Int), a[k]?.getD 0)] := by
  unfold rowT
  rw [List.range_succ, List.map_append]; rfl
theorem rowT_length (j : Int) (a : List Int) (k : Nat) : (rowT j a k).length = k := by simp [rowT]
theorem mem_rowT {j : Int} {a : List Int} {k : Nat} {e : T3} : e ∈ rowT j a k ↔ ∃ i, i < k ∧ e = (j, (i : Int), a[i]?.getD 0) := by
  unfold rowT
  simp only [List.mem_map, List.mem_range]
  constructor
  · rintro ⟨i, h, rfl⟩; exact ⟨i, h, rfl⟩
  · rintro ⟨i, h, rfl⟩; exact ⟨i, h, rfl⟩
def allT (a b : List Int) : List T3 := rowT 0 a a.length ++ rowT 1 b b.length
theorem rowT_nodup (j : Int) (a : List Int) (k : Nat) : (rowT j a k).Nodup := by
  unfold rowT
  refine List.Pairwise.map _ ?_ List.nodup_range
  intro x y h e
  simp only [Prod.mk.injEq] at e
  omega
theorem allT_nodup (a b : List Int) : (allT a b).Nodup := by
  unfold allT
  rw [List.nodup_append]
  refine ⟨rowT_nodup _ _ _, rowT_nodup _ _ _, ?_⟩
  intro x hx y hy e
  subst e
  obtain ⟨i, _, rfl⟩ := mem_rowT.1 hx
  obtain ⟨i', _, e⟩ := mem_rowT.1 hy
  simp at e

def knT (q : PQ) (e : T3) : Bool := isKn (if e.1 = 0 then q.r0 else q.r1) e.2.1.toNat
def inT (q : PQ) (e : T3) : Int := inAt (if e.1 = 0 then q.r0 else q.r1) e.2.1.toNat

structure Ord (a b : List Int) (l : List T3) (q : PQ) : Prop where
  ok : q.ok
  n : q.n = 60
  nd : l.Nodup
  sub : ∀ e ∈ l, e ∈ allT a b
  unk : ∀ e ∈ l, knT q e = false
  knw : ∀ e ∈ allT a b, e ∉ l → knT q e = true ∧ inT q e = e.2.2
  far0 : ∀ f, a.length ≤ f → isKn q.r0 f = false
  far1 : ∀ f, b.length ≤ f → isKn q.r1 f = false

theorem Ord.start (a b : List Int) : Ord a b (allT a b) (PQ.new 60) where
  ok := PQ.new_ok (by omega)
  n := rfl
  nd := allT_nodup a b
  sub := fun _ h => h
  unk := fun e _ => by
    unfold knT
    split
    · exact isKn_none _ _
    · exact isKn_none _ _
  knw := fun e h h' => absurd h h'
  far0 := fun _ _ => isKn_none _ _
  far1 := fun _ _ => isKn_none _ _

theorem Ord.step {a b : List Int} {pre post : List T3} {e : T3} {q : PQ} (h : Ord a b (pre ++ e :: post) q) (ha : a.length ≤ 60) (hb : b.length ≤ 60) :
    ∃ q', q.put e.1 e.2.1 e.2.2 = (0, q') ∧ q'.put e.1 e.2.1 e.2.2 = (8, q') ∧ (∀ y, y ≠ e.2.2 → q'.put e.1 e.2.1 y = (18, q')) ∧ q'.ok ∧ Ord a b (pre ++ post) q' := by
  have he : e ∈ pre ++ e :: post := by simp
  have hsub := h.sub e he
  have hun := h.unk e he
  have hnd := h.nd
  have hmem : ∀ x, x ∈ pre ++ post → x ∈ pre ++ e :: post := by intro x hx; simp at hx ⊢; rcases hx with hx | hx <;> simp [hx]
  have hne : ∀ x, x ∈ pre ++ post → x ≠ e := by
    rintro x hx rfl
    rw [List.nodup_append] at hnd
    obtain ⟨_, h2, h3⟩ := hnd
    rw [List.nodup_cons] at h2
    rcases List.mem_append.1 hx with hx | hx
    · exact h3 x hx x (by simp) rfl
    · exact h2.1 hx
  have hnot : ∀ x, x ≠ e → x ∉ pre ++ post → x ∉ pre ++ e :: post := by
    intro x h1 h2 h3
    simp at h2 h3
    rcases h3 with h3 | h3 | h3
    · exact h2.1 h3
    · exact h1 h3
    · exact h2.2 h3
  have hnd' : (pre ++ post).Nodup := by
    rw [List.nodup_append] at hnd ⊢
    obtain ⟨h1, h2, h3⟩ := hnd
    rw [List.nodup_cons] at h2
    exact ⟨h1, h2.2, fun x hx y hy => h3 x hx y (by simp [hy])⟩
  rcases List.mem_append.1 hsub with hm | hm
  · obtain ⟨i, hi, rfl⟩ := mem_rowT.1 hm
    have hk : isKn q.r0 i = false := hun
    have hn0 : q.r0.ok 60 := by have := h.ok.2.1; rw [h.n] at this; exact this
    have hi60 : i < 60 := by omega
    have hin := fun k => isKn_set (x := a[i]?.getD 0) hn0 hi60 k
    have hat := fun k => inAt_set (x := a[i]?.getD 0) hn0 hi60 k
    have hput : ∀ (y : Int), PQ.put { q with r0 := setR q.r0 i (a[i]?.getD 0) } 0 i y = (hasErr (a[i]?.getD 0) y, { q with r0 := setR q.r0 i (a[i]?.getD 0) }) := by
      intro y
      rw [put0_known (q := { q with r0 := setR q.r0 i (a[i]?.getD 0) }) (show i < q.n by rw [h.n]; exact hi60) (by show isKn (setR q.r0 i _) i = true; rw [hin, if_pos rfl])]
      show (hasErr (inAt (setR q.r0 i _) i) y, _) = _
      rw [hat, if_pos rfl]
    refine ⟨{ q with r0 := setR q.r0 i (a[i]?.getD 0) }, ?_, ?_, ?_, ⟨h.ok.1, by simp [setR, PRow.ok, h.ok.2.1.1, h.ok.2.1.2], h.ok.2.2⟩, ⟨⟨h.ok.1, by simp [setR, PRow.ok, h.ok.2.1.1, h.ok.2.1.2], h.ok.2.2⟩, h.n, hnd', fun x hx => h.sub x (hmem x hx), ?_, ?_, ?_, h.far1⟩⟩
    · exact put0_new (by rw [h.n]; exact hi60) hk _
    · show PQ.put _ 0 (i : Int) _ = _
      rw [hput, hasErr_eq rfl]
    · intro y hy
      show PQ.put _ 0 (i : Int) _ = _
      rw [hput, hasErr_ne (Ne.symm hy)]
    · intro x hx
      have h0 := h.unk x (hmem x hx)
      have h1 := hne x hx
      rcases List.mem_append.1 (h.sub x (hmem x hx)) with hm2 | hm2
      · obtain ⟨i', _, rfl⟩ := mem_rowT.1 hm2
        have : i' ≠ i := by rintro rfl; exact h1 rfl
        show isKn (setR q.r0 i _) i' = false
        rw [hin, if_neg this]
        exact h0
      · obtain ⟨i', _, rfl⟩ := mem_rowT.1 hm2
        exact h0
    · intro x hx hx2
      by_cases e : x = ((0 : Int), (i : Int), a[i]?.getD 0)
      · subst e
        exact ⟨by show isKn (setR q.r0 i _) i = true; rw [hin, if_pos rfl], by show inAt (setR q.r0 i _) i = _; rw [hat, if_pos rfl]⟩
      · have h0 := h.knw x hx (hnot x e hx2)
        rcases List.mem_append.1 hx with hm2 | hm2
        · obtain ⟨i', _, rfl⟩ := mem_rowT.1 hm2
          have : i' ≠ i := by rintro rfl; exact e rfl
          refine ⟨?_, ?_⟩
          · show isKn (setR q.r0 i _) i' = true
            rw [hin, if_neg this]
            exact h0.1
          · show inAt (setR q.r0 i _) i' = _
            rw [hat, if_neg this]
            exact h0.2
        · obtain ⟨i', _, rfl⟩ := mem_rowT.1 hm2
          exact h0
    · intro f hf
      show isKn (setR q.r0 i _) f = false
      rw [hin, if_neg (by omega)]
      exact h.far0 f hf
  · obtain ⟨i, hi, rfl⟩ := mem_rowT.1 hm
    have hk : isKn q.r1 i = false := hun
    have hn0 : q.r1.ok 60 := by have := h.ok.2.2; rw [h.n] at this; exact this
    have hi60 : i < 60 := by omega
    have hin := fun k => isKn_set (x := b[i]?.getD 0) hn0 hi60 k
    have hat := fun k => inAt_set (x := b[i]?.getD 0) hn0 hi60 k
    have hput : ∀ (y : Int), PQ.put { q with r1 := setR q.r1 i (b[i]?.getD 0) } 1 i y = (hasErr (b[i]?.getD 0) y, { q with r1 := setR q.r1 i (b[i]?.getD 0) }) := by
      intro y
      rw [put1_known (q := { q with r1 := setR q.r1 i (b[i]?.getD 0) }) (show i < q.n by rw [h.n]; exact hi60) (by show isKn (setR q.r1 i _) i = true; rw [hin, if_pos rfl])]
      show (hasErr (inAt (setR q.r1 i _) i) y, _) = _
      rw [hat, if_pos rfl]
    refine ⟨{ q with r1 := setR q.r1 i (b[i]?.getD 0) }, ?_, ?_, ?_, ⟨h.ok.1, h.ok.2.1, by simp [setR, PRow.ok, h.ok.2.2.1, h.ok.2.2.2]⟩, ⟨⟨h.ok.1, h.ok.2.1, by simp [setR, PRow.ok, h.ok.2.2.1, h.ok.2.2.2]⟩, h.n, hnd', fun x hx => h.sub x (hmem x hx), ?_, ?_, h.far0, ?_⟩⟩
    · exact put1_new (by rw [h.n]; exact hi60) hk _
    · show PQ.put _ 1 (i : Int) _ = _
      rw [hput, hasErr_eq rfl]
    · intro y hy
      show PQ.put _ 1 (i : Int) _ = _
      rw [hput, hasErr_ne (Ne.symm hy)]
    · intro x hx
      have h0 := h.unk x (hmem x hx)
      have h1 := hne x hx
      rcases List.mem_append.1 (h.sub x (hmem x hx)) with hm2 | hm2
      · obtain ⟨i', _, rfl⟩ := mem_rowT.1 hm2
        exact h0
      · obtain ⟨i', _, rfl⟩ := mem_rowT.1 hm2
        have : i' ≠ i := by rintro rfl; exact h1 rfl
        show isKn (setR q.r1 i _) i' = false
        rw [hin, if_neg this]
        exact h0
    · intro x hx hx2
      by_cases e : x = ((1 : Int), (i : Int), b[i]?.getD 0)
      · subst e
        exact ⟨by show isKn (setR q.r1 i _) i = true; rw [hin, if_pos rfl], by show inAt (setR q.r1 i _) i = _; rw [hat, if_pos rfl]⟩
      · have h0 := h.knw x hx (hnot x e hx2)
        rcases List.mem_append.1 hx with hm2 | hm2
        · obtain ⟨i', _, rfl⟩ := mem_rowT.1 hm2
          exact h0
        · obtain ⟨i', _, rfl⟩ := mem_rowT.1 hm2
          have : i' ≠ i := by rintro rfl; exact e rfl
          refine ⟨?_, ?_⟩
          · show isKn (setR q.r1 i _) i' = true
            rw [hin, if_neg this]
            exact h0.1
          · show inAt (setR q.r1 i _) i' = _
            rw [hat, if_neg this]
            exact h0.2
    · intro f hf
      show isKn (setR q.r1 i _) f = false
      rw [hin, if_neg (by omega)]
      exact h.far1 f hf

theorem isKn_some {r : PRow} {i : Nat} (h : isKn r i = true) : r.kn[i]? = some true := by
  unfold isKn at h
  cases e : r.kn[i]? with
  | none => rw [e] at h; simp at h
  | some b => rw [e] at h; simp at h; rw [h]
theorem isKn_not {r : PRow} {i : Nat} (h : isKn r i = false) : r.kn[i]? ≠ some true := by
  intro e
  unfold isKn at h
  rw [e] at h
  simp at h

def wantT (a b : List Int) (k : Nat) : List (Int × Int) := (List.range k).map fun i : Nat => (a[i]?.getD 0, b[i]?.getD 0)
theorem wantT_snoc (a b : List Int) (k : Nat) : wantT a b (k + 1) = wantT a b k ++ [(a[k]?.getD 0, b[k]?.getD 0)] := by
  unfold wantT
  rw [List.range_succ, List.map_append]; rfl
theorem wantT_length (a b : List Int) (k : Nat) : (wantT a b k).length = k := by simp [wantT]

theorem Ord.done {a b : List Int} {q : PQ} (h : Ord a b [] q) : q.known 0 = a.length ∧ q.known 1 = b.length ∧ q.both = min a.length b.length ∧ q.pairs = wantT a b (min a.length b.length) := by
  have h0 : ∀ i, i < a.length → isKn q.r0 i = true ∧ inAt q.r0 i = a[i]?.getD 0 := fun i hi =>
    h.knw (0, (i : Int), a[i]?.getD 0) (List.mem_append.2 (.inl (mem_rowT.2 ⟨i, hi, rfl⟩))) (by simp)
  have h1 : ∀ i, i < b.length → isKn q.r1 i = true ∧ inAt q.r1 i = b[i]?.getD 0 := fun i hi =>
    h.knw (1, (i : Int), b[i]?.getD 0) (List.mem_append.2 (.inr (mem_rowT.2 ⟨i, hi, rfl⟩))) (by simp)
  have l0 : lead q.r0.kn = a.length := lead_eq (fun i hi => isKn_some (h0 i hi).1) (isKn_not (h.far0 _ (Nat.le_refl _)))
  have l1 : lead q.r1.kn = b.length := lead_eq (fun i hi => isKn_some (h1 i hi).1) (isKn_not (h.far1 _ (Nat.le_refl _)))
  have hb : q.both = min a.length b.length := by unfold PQ.both; rw [l0, l1]
  refine ⟨by unfold PQ.known; rw [if_pos rfl, l0], by unfold PQ.known; rw [if_neg (by decide), if_pos rfl, l1], hb, ?_⟩
  unfold PQ.pairs wantT
  rw [hb]
  refine List.map_congr_left fun i hi => ?_
  rw [List.mem_range] at hi
  rw [(h0 i (by omega)).2, (h1 i (by omega)).2]
end Go.Inp
