/-
  A small separation logic over the model's heap: a list of assertions, each of a part of the blocks that the call itself made; what lies below stays.
-/
import Derived.WalkKit
import Derived.WalkLawsBesides
import Derived.WalkSpells
import Derived.Lib.Hide
namespace Go.Sep
open Go.RowKit

/-! ### parts of a heap -/
abbrev PH := Nat → Option Obj
def PH.le (h k : PH) : Prop := ∀ b o, h b = some o → k b = some o
def PH.on (h : PH) (t : Nat → Bool) : PH := fun b => if t b then h b else none

theorem PH.on_le (h : PH) (t : Nat → Bool) : PH.le (h.on t) h := by
  intro b o hb
  unfold PH.on at hb
  split at hb
  · exact hb
  · cases hb

theorem PH.on_mono {h k : PH} (H : PH.le h k) (t : Nat → Bool) : PH.le (h.on t) (k.on t) := by
  intro b o hb
  unfold PH.on at hb ⊢
  split at hb
  · rename_i ht; rw [if_pos ht]; exact H b o hb
  · cases hb

structure Asn where
  holds : PH → Prop
  mono : ∀ h k, PH.le h k → holds h → holds k

def emp : Asn := ⟨fun _ => True, fun _ _ _ _ => True.intro⟩
def star (A B : Asn) : Asn :=
  ⟨fun h => ∃ t : Nat → Bool, A.holds (h.on t) ∧ B.holds (h.on (fun b => !t b)),
   fun _ _ H ⟨t, a, b⟩ => ⟨t, A.mono _ _ (PH.on_mono H _) a, B.mono _ _ (PH.on_mono H _) b⟩⟩
def all : List Asn → Asn
  | [] => emp
  | A :: L => star A (all L)
def exA {α : Type} (f : α → Asn) : Asn := ⟨fun h => ∃ x, (f x).holds h, fun _ _ H ⟨x, a⟩ => ⟨x, (f x).mono _ _ H a⟩⟩
def pureA (p : Prop) (A : Asn) : Asn := ⟨fun h => p ∧ A.holds h, fun _ _ H ⟨a, b⟩ => ⟨a, A.mono _ _ H b⟩⟩
def blk (p : Nat) (cs : List Value) (e : TypeId) : Asn := ⟨fun h => h p = some (.cells cs.toArray e (0, 0)), fun _ _ H a => H _ _ a⟩

theorem star_swap {A B C : Asn} {h : PH} (H : (star A (star B C)).holds h) : (star B (star A C)).holds h := by
  obtain ⟨t, hA, u, hB, hC⟩ := H
  refine ⟨fun b => !t b && u b, ?_, t, ?_, ?_⟩
  · refine cast (congrArg B.holds (funext fun b => ?_)) hB
    simp only [PH.on]
    by_cases h1 : t b = true <;> by_cases h2 : u b = true <;> simp [h1, h2]
  · refine cast (congrArg A.holds (funext fun b => ?_)) hA
    simp only [PH.on]
    by_cases h1 : t b = true <;> by_cases h2 : u b = true <;> simp [h1, h2]
  · refine cast (congrArg C.holds (funext fun b => ?_)) hC
    simp only [PH.on]
    by_cases h1 : t b = true <;> by_cases h2 : u b = true <;> simp [h1, h2]

theorem star_assoc {A B C : Asn} {h : PH} : (star (star A B) C).holds h ↔ (star A (star B C)).holds h := by
  constructor
  · rintro ⟨t, ⟨u, hA, hB⟩, hC⟩
    refine ⟨fun b => t b && u b, ?_, t, ?_, ?_⟩
    · refine cast (congrArg A.holds (funext fun b => ?_)) hA
      simp only [PH.on]
      by_cases h1 : t b = true <;> by_cases h2 : u b = true <;> simp [h1, h2]
    · refine cast (congrArg B.holds (funext fun b => ?_)) hB
      simp only [PH.on]
      by_cases h1 : t b = true <;> by_cases h2 : u b = true <;> simp [h1, h2]
    · refine cast (congrArg C.holds (funext fun b => ?_)) hC
      simp only [PH.on]
      by_cases h1 : t b = true <;> by_cases h2 : u b = true <;> simp [h1, h2]
  · rintro ⟨t, hA, u, hB, hC⟩
    refine ⟨fun b => t b || u b, ⟨t, ?_, ?_⟩, ?_⟩
    · refine cast (congrArg A.holds (funext fun b => ?_)) hA
      simp only [PH.on]
      by_cases h1 : t b = true <;> by_cases h2 : u b = true <;> simp [h1, h2]
    · refine cast (congrArg B.holds (funext fun b => ?_)) hB
      simp only [PH.on]
      by_cases h1 : t b = true <;> by_cases h2 : u b = true <;> simp [h1, h2]
    · refine cast (congrArg C.holds (funext fun b => ?_)) hC
      simp only [PH.on]
      by_cases h1 : t b = true <;> by_cases h2 : u b = true <;> simp [h1, h2]

theorem star_mono {A A' B B' : Asn} {h : PH} (hA : ∀ h, A.holds h → A'.holds h) (hB : ∀ h, B.holds h → B'.holds h) (H : (star A B).holds h) : (star A' B').holds h := by
  obtain ⟨t, a, b⟩ := H
  exact ⟨t, hA _ a, hB _ b⟩

theorem star_right {A B : Asn} {h : PH} (H : (star A B).holds h) : B.holds h := by
  obtain ⟨t, _, b⟩ := H
  exact B.mono _ _ (PH.on_le _ _) b

theorem star_left {A B : Asn} {h : PH} (H : (star A B).holds h) : A.holds h := by
  obtain ⟨t, a, _⟩ := H
  exact A.mono _ _ (PH.on_le _ _) a

theorem emp_star {A : Asn} {h : PH} (H : A.holds h) : (star emp A).holds h := by
  refine ⟨fun _ => false, True.intro, ?_⟩
  refine cast (congrArg A.holds (funext fun b => ?_)) H
  simp [PH.on]

theorem all_append : ∀ (L M : List Asn) (h : PH), (all (L ++ M)).holds h ↔ (star (all L) (all M)).holds h
  | [], _, _ => ⟨emp_star, star_right⟩
  | A :: L, M, h => by
    show (star A (all (L ++ M))).holds h ↔ (star (star A (all L)) (all M)).holds h
    rw [star_assoc]
    constructor
    · exact star_mono (fun _ h => h) fun h H => (all_append L M h).1 H
    · exact star_mono (fun _ h => h) fun h H => (all_append L M h).2 H

/-- the i-th is brought to the head -/
def bring : Nat → List Asn → List Asn
  | _, [] => []
  | 0, A :: L => A :: L
  | i + 1, A :: L => match bring i L with
    | [] => [A]
    | B :: M => B :: A :: M

theorem all_bring : ∀ (i : Nat) (L : List Asn) (h : PH), (all L).holds h → (all (bring i L)).holds h
  | i, [], _, H => by cases i <;> exact H
  | 0, _ :: _, _, H => H
  | i + 1, A :: L, h, H => by
    have this : (star A (all (bring i L))).holds h := star_mono (fun _ h => h) (all_bring i L) H
    simp only [bring]
    cases hb : bring i L with
    | nil => rw [hb] at this; exact this
    | cons B M =>
      rw [hb] at this
      exact star_swap this

/-- one behind the other: the i-th of what is left each time -/
def sel : List Nat → List Asn → List Asn
  | [], L => L
  | i :: is, L => match bring i L with
    | [] => []
    | A :: M => A :: sel is M

theorem all_sel : ∀ (is : List Nat) (L : List Asn) (h : PH), (all L).holds h → (all (sel is L)).holds h
  | [], _, _, H => H
  | i :: is, L, h, H => by
    have H' := all_bring i L h H
    simp only [sel]
    cases hb : bring i L with
    | nil => exact True.intro
    | cons A M =>
      rw [hb] at H'
      exact star_mono (fun _ h => h) (all_sel is M) H'

/-- one of them alone is changed, where its part of the heap is changed -/
theorem all_get : ∀ (i : Nat) (L : List Asn) (h : PH) (A : Asn), L[i]? = some A → (all L).holds h → A.holds h
  | 0, B :: L, h, A, hi, H => by
    simp at hi; subst hi; exact star_left H
  | i + 1, B :: L, h, A, hi, H => by
    exact all_get i L h A (by simpa using hi) (star_right H)

def upd (h : PH) (p : Nat) (o : Obj) : PH := fun b => if b = p then some o else h b

theorem on_upd_in {h : PH} {t : Nat → Bool} {p : Nat} {o : Obj} (ht : t p = true) : (upd h p o).on t = upd (h.on t) p o := by
  funext b
  simp only [PH.on, upd]
  by_cases hb : b = p
  · subst hb; simp [ht]
  · simp [hb]

theorem on_upd_out {h : PH} {t : Nat → Bool} {p : Nat} {o : Obj} (ht : t p = false) : (upd h p o).on t = h.on t := by
  funext b
  simp only [PH.on, upd]
  by_cases hb : b = p
  · subst hb; simp [ht]
  · simp [hb]

/-- A block that the i-th holds is written. -/
theorem all_upd {p : Nat} {o : Obj} {A A' : Asn} (hA : ∀ h : PH, A.holds h → h p ≠ none ∧ A'.holds (upd h p o)) :
    ∀ (i : Nat) (L : List Asn) (h : PH), L[i]? = some A → (all L).holds h → (all (L.set i A')).holds (upd h p o)
  | 0, B :: L, h, hi, H => by
    simp at hi; subst hi
    obtain ⟨t, a, b⟩ := H
    obtain ⟨hp, a'⟩ := hA _ a
    have ht : t p = true := by
      cases e : t p with
      | true => rfl
      | false => exact absurd (by simp [PH.on, e]) hp
    refine ⟨t, ?_, ?_⟩
    · rw [on_upd_in ht]; exact a'
    · rw [on_upd_out (by simp [ht])]; exact b
  | i + 1, B :: L, h, hi, H => by
    obtain ⟨t, a, b⟩ := H
    have hi' : L[i]? = some A := by simpa using hi
    have hp : (h.on (fun b => !t b)) p ≠ none := (hA _ (all_get i L _ A hi' b)).1
    have ht : t p = false := by
      cases e : t p with
      | false => rfl
      | true => exact absurd (by simp [PH.on, e]) hp
    refine ⟨t, ?_, ?_⟩
    · rw [on_upd_out ht]; exact a
    · rw [on_upd_in (by simp [ht])]
      exact all_upd hA i L _ hi' b

theorem all_blk_ne {p q : Nat} {cs ds : List Value} {e f : TypeId} {L : List Asn} {h : PH} (H : (all (blk p cs e :: blk q ds f :: L)).holds h) : p ≠ q := by
  obtain ⟨t, a, b⟩ := H
  have b' := star_left b
  intro e; subst e
  simp only [blk, PH.on] at a b'
  cases ht : t p <;> simp [ht] at a b'

/-! ### the call's own heap -/
def heapOf (B : Nat) (w : World) : PH := fun b => if B ≤ b then w.heap[b]? else none

structure Sat (W0 w : World) (L : List Asn) : Prop where
  below : Below W0.heap.size W0 w
  own : (all L).holds (heapOf W0.heap.size w)

theorem Sat.start (W0 : World) : Sat W0 W0 [] := ⟨Below.refl _ _, True.intro⟩
theorem Sat.bring {W0 w : World} {L : List Asn} (H : Sat W0 w L) (i : Nat) : Sat W0 w (bring i L) := ⟨H.below, all_bring i L _ H.own⟩
theorem Sat.sel {W0 w : World} {L : List Asn} (H : Sat W0 w L) (is : List Nat) : Sat W0 w (sel is L) := ⟨H.below, all_sel is L _ H.own⟩
theorem Sat.swap {W0 w : World} {A B : Asn} {L : List Asn} (H : Sat W0 w (A :: B :: L)) : Sat W0 w (B :: A :: L) := H.bring 1
theorem Sat.third {W0 w : World} {A B C : Asn} {L : List Asn} (H : Sat W0 w (A :: B :: C :: L)) : Sat W0 w (C :: A :: B :: L) := H.bring 2
theorem Sat.under {W0 w : World} {A B C : Asn} {L : List Asn} (H : Sat W0 w (A :: B :: C :: L)) : Sat W0 w (B :: C :: A :: L) := H.sel [1, 1]
theorem Sat.tail {W0 w : World} {A : Asn} {L : List Asn} (H : Sat W0 w (A :: L)) : Sat W0 w L := ⟨H.below, star_right H.own⟩
theorem Sat.map {W0 w : World} {L M : List Asn} (H : Sat W0 w L) (hh : ∀ h, (all L).holds h → (all M).holds h) : Sat W0 w M := ⟨H.below, hh _ H.own⟩
theorem Sat.star {W0 w : World} {A B : Asn} {L : List Asn} : Sat W0 w (star A B :: L) ↔ Sat W0 w (A :: B :: L) :=
  ⟨fun H => ⟨H.below, star_assoc.1 H.own⟩, fun H => ⟨H.below, star_assoc.2 H.own⟩⟩
theorem Sat.flat {W0 w : World} {M L : List Asn} : Sat W0 w (Sep.all M :: L) ↔ Sat W0 w (M ++ L) :=
  ⟨fun H => ⟨H.below, (all_append _ _ _).2 H.own⟩, fun H => ⟨H.below, (all_append _ _ _).1 H.own⟩⟩
theorem Sat.ex {α : Type} {W0 w : World} {f : α → Asn} {L : List Asn} : Sat W0 w (exA f :: L) ↔ ∃ x, Sat W0 w (f x :: L) := by
  constructor
  · rintro ⟨hb, t, ⟨x, a⟩, b⟩
    exact ⟨x, hb, t, a, b⟩
  · rintro ⟨x, hb, t, a, b⟩
    exact ⟨hb, t, ⟨x, a⟩, b⟩
theorem Sat.pure {W0 w : World} {p : Prop} {A : Asn} {L : List Asn} : Sat W0 w (pureA p A :: L) ↔ p ∧ Sat W0 w (A :: L) := by
  constructor
  · rintro ⟨hb, t, ⟨x, a⟩, b⟩
    exact ⟨x, hb, t, a, b⟩
  · rintro ⟨x, hb, t, a, b⟩
    exact ⟨hb, t, ⟨x, a⟩, b⟩
theorem Sat.emp {W0 w : World} {L : List Asn} (H : Sat W0 w L) : Sat W0 w (emp :: L) := ⟨H.below, emp_star H.own⟩
theorem Sat.imp {W0 w : World} {A A' : Asn} {L : List Asn} (H : Sat W0 w (A :: L)) (h : ∀ h, A.holds h → A'.holds h) : Sat W0 w (A' :: L) := ⟨H.below, star_mono h (fun _ h => h) H.own⟩

theorem Sat.size {W0 w : World} {L : List Asn} (H : Sat W0 w L) : W0.heap.size ≤ w.heap.size := H.below.size

theorem Sat.block {W0 w : World} {L : List Asn} (H : Sat W0 w L) (i : Nat) {p : Nat} {cs : List Value} {e : TypeId} (hi : L[i]? = some (blk p cs e)) :
    w.heap[p]? = some (.cells cs.toArray e (0, 0)) ∧ W0.heap.size ≤ p ∧ p < w.heap.size := by
  have h := all_get i L _ _ hi H.own
  simp only [blk, heapOf] at h
  split at h
  · exact ⟨h, by assumption, (Array.getElem?_eq_some_iff.1 h).1⟩
  · cases h

theorem cell_at {w : World} {p : Nat} {cs : List Value} {e : TypeId} (h : w.heap[p]? = some (.cells cs.toArray e (0, 0))) (k : Nat) : w.cell? ⟨p, k, none⟩ = cs[k]? := by
  simp [World.cell?, h]
theorem frozen_at {w : World} {p : Nat} {cs : List Value} {e : TypeId} (h : w.heap[p]? = some (.cells cs.toArray e (0, 0))) (k : Nat) : w.frozen? ⟨p, k, none⟩ = false := by
  simp [World.frozen?, h]

theorem Sat.cell {W0 w : World} {L : List Asn} (H : Sat W0 w L) (i : Nat) {p : Nat} {cs : List Value} {e : TypeId} (hi : L[i]? = some (blk p cs e)) (k : Nat) :
    w.cell? ⟨p, k, none⟩ = cs[k]? := cell_at (H.block i hi).1 k
theorem Sat.frozen {W0 w : World} {L : List Asn} (H : Sat W0 w L) (i : Nat) {p : Nat} {cs : List Value} {e : TypeId} (hi : L[i]? = some (blk p cs e)) (k : Nat) :
    w.frozen? ⟨p, k, none⟩ = false := frozen_at (H.block i hi).1 k

theorem Sat.ne {W0 w : World} {L : List Asn} (H : Sat W0 w L) {p q : Nat} {cs ds : List Value} {e f : TypeId} {M : List Asn} (is : List Nat) (h : Sep.sel is L = blk p cs e :: blk q ds f :: M) : p ≠ q :=
  all_blk_ne (h ▸ all_sel is L _ H.own)

/-- What is the same in the call's own part and below. -/
theorem Sat.put {W0 w w' : World} {L : List Asn} (H : Sat W0 w L) {p : Nat} {o : Obj} {A A' : Asn} (i : Nat) (hi : L[i]? = some A)
    (hA : ∀ h : PH, A.holds h → h p ≠ none ∧ A'.holds (upd h p o)) (hb : Below W0.heap.size w w') (hw : heapOf W0.heap.size w' = upd (heapOf W0.heap.size w) p o) : Sat W0 w' (L.set i A') :=
  ⟨H.below.trans hb, hw ▸ all_upd hA i L _ hi H.own⟩

theorem heapOf_setCell {B : Nat} {w : World} {p k : Nat} {cs : List Value} {e : TypeId} {v : Value} (hB : B ≤ p) (h : w.heap[p]? = some (.cells cs.toArray e (0, 0))) :
    heapOf B (w.setCell ⟨p, k, none⟩ v) = upd (heapOf B w) p (.cells (cs.set k v).toArray e (0, 0)) := by
  funext b
  simp only [heapOf, upd, World.setCell, Array.getElem?_modify]
  by_cases hb : b = p
  · subst hb
    simp [hB, h]
  · rw [if_neg (show ¬ p = b from fun e => hb e.symm), if_neg hb]

theorem Sat.setCell {W0 w : World} {L : List Asn} (H : Sat W0 w L) (i : Nat) {p k : Nat} {cs : List Value} {e : TypeId} {v : Value} (hi : L[i]? = some (blk p cs e)) :
    Sat W0 (w.setCell ⟨p, k, none⟩ v) (L.set i (blk p (cs.set k v) e)) := by
  obtain ⟨hb, hB, _⟩ := H.block i hi
  refine H.put (p := p) (o := .cells (cs.set k v).toArray e (0, 0)) i hi (fun h ha => ⟨?_, ?_⟩) ((Below.refl _ _).setCell hB _) (heapOf_setCell hB hb)
  · simp only [blk] at ha; rw [ha]; simp
  · simp [blk, upd]

theorem Sat.drew {W0 w : World} {L : List Asn} (H : Sat W0 w L) : Sat W0 w.drew L := ⟨H.below.drew, H.own⟩
theorem Sat.drewN {W0 w : World} {L : List Asn} (H : Sat W0 w L) (n : Nat) : Sat W0 (w.drewN n) L := ⟨⟨H.below.os, H.below.tape, H.below.output, H.below.size, H.below.block⟩, H.own⟩

theorem heapOf_alloc {B : Nat} {w : World} {o : Obj} (hB : B ≤ w.heap.size) : heapOf B (w.alloc o) = upd (heapOf B w) w.heap.size o := by
  funext b
  simp only [heapOf, upd, World.alloc, Array.getElem?_push]
  by_cases hb : b = w.heap.size
  · subst hb; simp [hB]
  · rw [if_neg hb, if_neg hb]

theorem all_new {L : List Asn} {h : PH} {p : Nat} {o : Obj} {A : Asn} (hp : h p = none) (hA : ∀ k : PH, k p = some o → A.holds k) (H : (all L).holds h) : (all (A :: L)).holds (upd h p o) := by
  refine ⟨fun b => b == p, hA _ ?_, ?_⟩
  · simp [PH.on, upd]
  · refine cast (congrArg (all L).holds (funext fun b => ?_)) H
    simp only [PH.on, upd]
    by_cases hb : b = p
    · subst hb; simp [hp]
    · simp [hb]

theorem Sat.alloc {W0 w : World} {L : List Asn} (H : Sat W0 w L) (cs : List Value) (e : TypeId) : Sat W0 (w.alloc (.cells cs.toArray e)) (blk w.heap.size cs e :: L) := by
  refine ⟨H.below.alloc H.below.size _, ?_⟩
  rw [heapOf_alloc H.below.size]
  exact all_new (by simp [heapOf]) (fun k hk => hk) H.own

/-- blocks that nobody asks for -/
theorem Sat.grown {W0 w w' : World} {L : List Asn} (H : Sat W0 w L) (hg : w.grownBy w' none) : Sat W0 w' L := by
  refine ⟨H.below.grown hg H.below.size (fun k h => by cases h), (all L).mono _ _ ?_ H.own⟩
  intro b o hb
  simp only [heapOf] at hb ⊢
  split at hb
  · rename_i hB
    rw [if_pos hB, hg.block b (Array.getElem?_eq_some_iff.1 hb).1 (by simp)]
    exact hb
  · cases hb

#print axioms Sat.grown
#print axioms Sat.setCell
#print axioms Sat.sel
end Go.Sep
