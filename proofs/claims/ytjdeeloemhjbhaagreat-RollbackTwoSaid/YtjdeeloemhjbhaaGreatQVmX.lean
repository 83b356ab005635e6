/-
  vm: a state out of bytes, plain; its walk (begun).
-/
import Derived.Test.YtjdeeloemhjbhaaGreatQR1N
import Derived.Test.YtjdeeloemhjbhaaGreatQVmV

namespace Go.Proofs.YtjdeeloemhjbhaaGreat
open Go.RowKit Go.Sep Go.Oct Go.Vm

/-- so many fours -/
def rd4 : Nat → List Int → Int → List Int × List Int × Int
  | 0, bs, e => ([], bs, e)
  | k + 1, bs, e => (le (tk 4 bs e).1 :: (rd4 k (tk 4 bs e).2.1 (tk 4 bs e).2.2).1, (rd4 k (tk 4 bs e).2.1 (tk 4 bs e).2.2).2)
def i32of (x : Int) : Int := if x < 2147483648 then x else x - 4294967296
def decP (bs : List Int) : VS × Int :=
  let a := rdNum bs 0
  let c := rd4 16 a.2.1 a.2.2
  let d := tk 4 c.2.1 c.2.2
  let o := tk 1 d.2.1 d.2.2
  let n := tk 1 o.2.1 o.2.2
  let e := endOf n.2.1 n.2.2
  let s : VS := ⟨a.1, c.1.map i32of, le d.1, decide (le o.1 = 1), le n.1⟩
  let er := if e = 0 ∧ (1 < le o.1 ∨ isP s = false) then 3 else e
  if er ≠ 0 then (VS.zero, er) else (s, 0)

theorem i32_wrap {x : Int} (h : 0 ≤ x ∧ x < 4294967296) : IntKind.i32.wrap x = i32of x := by
  unfold i32of
  rw [IntKind.wrap_i32]
  split <;> omega
theorem i32_wrap32 {x : Int} (h : 0 ≤ x ∧ x < 4294967296) : wrap32 x = i32of x := by
  unfold i32of wrap32
  split <;> omega
theorem svals_set {s : VS} (h : s.cells.length = 16) {k : Nat} (hk : k < 16) (v : Int) : (svals s).set (1 + k) (.int .i32 v) = svals { s with cells := s.cells.set k v } := by
  unfold svals
  rw [show 1 + k = k + 1 by omega, List.set_cons_succ, List.set_append_left _ _ (by rw [List.length_map]; omega)]
  simp only [List.map_set]
theorem svals_setSeed {s : VS} (h : s.cells.length = 16) (v : Int) : (svals s).set 17 (.int .u32 v) = svals { s with seed := v } :=
  set_tail _ _ _ (by rw [List.length_map, h]) 0 _
theorem rd4_len (k : Nat) : ∀ (bs : List Int) (e : Int), (rd4 k bs e).1.length = k := by
  induction k with
  | zero => intro bs e; rfl
  | succ k ih => intro bs e; simp [rd4, ih]
theorem rd4_snoc (k : Nat) : ∀ (bs : List Int) (e : Int), rd4 (k + 1) bs e = ((rd4 k bs e).1 ++ [le (tk 4 (rd4 k bs e).2.1 (rd4 k bs e).2.2).1], (tk 4 (rd4 k bs e).2.1 (rd4 k bs e).2.2).2) := by
  induction k with
  | zero => intro bs e; rfl
  | succ k ih =>
    intro bs e
    have h := ih (tk 4 bs e).2.1 (tk 4 bs e).2.2
    show (le (tk 4 bs e).1 :: (rd4 (k + 1) (tk 4 bs e).2.1 (tk 4 bs e).2.2).1, (rd4 (k + 1) (tk 4 bs e).2.1 (tk 4 bs e).2.2).2) = _
    rw [h]
    rfl
theorem tkB {n : Nat} {bs : List Int} {e : Int} (hB : Bytes bs) : Bytes (tk n bs e).2.1 := by
  have hn : Bytes [] := fun x hx => by simp at hx
  by_cases he : e = 0
  · subst he
    by_cases hs : bs.length < n
    · rw [tk_short hs]; exact hn
    · rw [tk_enough hs]; exact hB.drop n
  · rw [tk_had he]; exact hB
theorem rd4_bytes (k : Nat) : ∀ {bs : List Int} {e : Int}, Bytes bs → Bytes (rd4 k bs e).2.1 := by
  induction k with
  | zero => intro bs e h; exact h
  | succ k ih => intro bs e h; exact ih (tkB h)
theorem le_tk4 {bs : List Int} (hB : Bytes bs) (e : Int) : 0 ≤ le (tk 4 bs e).1 ∧ le (tk 4 bs e).1 < 4294967296 := by
  obtain ⟨a, b, c, d, _, h, h1, h2, h3, h4⟩ := tk_four hB e
  omega
theorem le_tk1 {bs : List Int} (hB : Bytes bs) (e : Int) : 0 ≤ le (tk 1 bs e).1 ∧ le (tk 1 bs e).1 < 256 := by
  by_cases he : e = 0
  · subst he
    cases bs with
    | nil => rw [one_nil]; decide
    | cons c r =>
      rw [one_cons]
      have := hB c (by simp)
      show 0 ≤ c + 256 * 0 ∧ c + 256 * 0 < 256
      omega
  · rw [one_had he]; exact (show (0 : Int) ≤ 0 ∧ (0 : Int) < 256 by omega)
def cellsAt (k : Nat) (bs : List Int) (e : Int) : List Int := (rd4 k bs e).1.map i32of ++ List.replicate (16 - k) 0
theorem cellsAt_len {k : Nat} (hk : k ≤ 16) (bs : List Int) (e : Int) : (cellsAt k bs e).length = 16 := by
  unfold cellsAt
  rw [List.length_append, List.length_map, rd4_len, List.length_replicate]
  omega
theorem cellsAt_next {k : Nat} (hk : k < 16) (bs : List Int) (e : Int) : (cellsAt k bs e).set k (i32of (le (tk 4 (rd4 k bs e).2.1 (rd4 k bs e).2.2).1)) = cellsAt (k + 1) bs e := by
  unfold cellsAt
  rw [rd4_snoc, List.map_append, List.set_append_right _ _ (by rw [List.length_map, rd4_len]; omega), List.length_map, rd4_len, Nat.sub_self]
  rw [show 16 - k = (16 - (k + 1)) + 1 by omega, List.replicate_succ, List.set_cons_zero]
  simp
theorem cellsAt_all (bs : List Int) (e : Int) : cellsAt 16 bs e = (rd4 16 bs e).1.map i32of := by
  unfold cellsAt
  simp
theorem rdNumFrom_none (d : Nat) : ∀ (k : Nat) (x : Int) (bs : List Int) (e : Int), 10 - k = d → (e ≠ 0 → bs = []) → (rdNumFrom k x bs e).2.2 ≠ 0 → (rdNumFrom k x bs e).2.1 = [] := by
  induction d with
  | zero => intro k x bs e hd _ _; rw [rdNumFrom_ten (by omega)]
  | succ d ih =>
    intro k x bs e hd h0
    have hk : k < 10 := by omega
    by_cases he : e = 0
    · subst he
      cases bs with
      | nil => rw [rdNumFrom_nil hk]; intro _; rfl
      | cons c r =>
        by_cases h1 : (k = 9 ∧ 1 < c) ∨ (0 < k ∧ c = 0)
        · rw [rdNumFrom_bad hk h1]; intro _; rfl
        · by_cases h2 : c < 128
          · rw [rdNumFrom_last hk h1 h2]; intro h; exact absurd rfl h
          · rw [rdNumFrom_more hk h1 h2]; exact ih _ _ _ _ (by omega) (fun h => absurd rfl h)
    · rw [rdNumFrom_err hk he]; intro _; exact h0 he
theorem rdNum_none {bs : List Int} (h : (rdNum bs 0).2.2 ≠ 0) : (rdNum bs 0).2.1 = [] := rdNumFrom_none 10 0 0 bs 0 rfl (fun h => absurd rfl h) h
theorem rd4_none (k : Nat) : ∀ {bs : List Int} {e : Int}, (e ≠ 0 → bs = []) → (rd4 k bs e).2.2 ≠ 0 → (rd4 k bs e).2.1 = [] := by
  induction k with
  | zero => intro bs e h; exact h
  | succ k ih => intro bs e h; exact ih (fun hx => tk_err h hx)

end Go.Proofs.YtjdeeloemhjbhaaGreat
