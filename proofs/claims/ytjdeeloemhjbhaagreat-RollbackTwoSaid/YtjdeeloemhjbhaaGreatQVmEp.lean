/-
  vm, plain: a state as bytes; what is read of them is the state, and what is read was laid so.
-/
import Derived.Test.YtjdeeloemhjbhaaGreatQVmX
import Derived.Test.YtjdeeloemhjbhaaGreatQWiL

namespace Go.Proofs.YtjdeeloemhjbhaaGreat
open Go.RowKit Go.Sep Go.Oct Go.Vm

def fourP (v : Int) : List Int := [v % 256, v / 256 % 256, v / 65536 % 256, v / 16777216]
def foursP (l : List Int) : List Int := (l.map fun c => fourP (c % 4294967296)).flatten
def encP (s : VS) : List Int := num s.frame ++ foursP s.cells ++ fourP s.seed ++ [if s.over then 1 else 0] ++ [s.winner % 256]
theorem foursP_length (l : List Int) : (foursP l).length = 4 * l.length := by
  unfold foursP
  induction l with
  | nil => rfl
  | cons x l ih => rw [List.map_cons, List.flatten_cons, List.length_append, ih]; show 4 + _ = _; rw [List.length_cons]; omega
theorem foursP_snoc (l : List Int) (c : Int) : foursP (l ++ [c]) = foursP l ++ fourP (c % 4294967296) := by
  unfold foursP
  rw [List.map_append, List.flatten_append]
  simp
theorem fourP_bytes {v : Int} (h : 0 ≤ v ∧ v < 4294967296) : Bytes (fourP v) := by
  intro x hx
  simp only [fourP, List.mem_cons, List.not_mem_nil, or_false] at hx
  rcases hx with rfl | rfl | rfl | rfl <;> omega
theorem foursP_bytes (l : List Int) : Bytes (foursP l) := by
  induction l with
  | nil => intro x hx; simp [foursP] at hx
  | cons c l ih =>
    intro x hx
    unfold foursP at hx ih
    rw [List.map_cons, List.flatten_cons] at hx
    rcases List.mem_append.1 hx with h | h
    · exact fourP_bytes (v := c % 4294967296) (by omega) x h
    · exact ih x h
theorem le_fourP {v : Int} (h : 0 ≤ v ∧ v < 4294967296) : le (fourP v) = v := by
  show v % 256 + 256 * (v / 256 % 256 + 256 * (v / 65536 % 256 + 256 * (v / 16777216 + 256 * 0))) = v
  omega
theorem tk4_fourP (v : Int) (r : List Int) : tk 4 (fourP v ++ r) 0 = (fourP v, r, 0) := by
  rw [tk_enough (by show ¬ (_ + 4 < 4); omega)]
  rfl
theorem i32of_mod {c : Int} (h : -2147483648 ≤ c ∧ c ≤ 2147483647) : i32of (c % 4294967296) = c := by
  unfold i32of
  split <;> omega
theorem mod_i32of {x : Int} (h : 0 ≤ x ∧ x < 4294967296) : i32of x % 4294967296 = x := by
  unfold i32of
  split <;> omega
theorem rd4_foursP : ∀ (l r : List Int), (∀ c ∈ l, -2147483648 ≤ c ∧ c ≤ 2147483647) → (rd4 l.length (foursP l ++ r) 0).1.map i32of = l ∧ (rd4 l.length (foursP l ++ r) 0).2 = (r, 0)
  | [], r, _ => ⟨rfl, rfl⟩
  | c :: l, r, h => by
    have e1 : foursP (c :: l) ++ r = fourP (c % 4294967296) ++ (foursP l ++ r) := by
      unfold foursP
      rw [List.map_cons, List.flatten_cons, List.append_assoc]
    have ih := rd4_foursP l r (fun x hx => h x (by simp [hx]))
    rw [e1, List.length_cons]
    unfold rd4
    rw [tk4_fourP]
    refine ⟨?_, ih.2⟩
    show i32of (le (fourP (c % 4294967296))) :: _ = _
    rw [le_fourP (by omega), i32of_mod (h c (by simp)), ih.1]
/-- what is one comes back -/
theorem decP_encP {s : VS} (ok : s.Ok) (his : isP s = true) (hw : 0 ≤ s.winner ∧ s.winner < 256) : decP (encP s) = (s, 0) := by
  have e1 : encP s = num s.frame ++ (foursP s.cells ++ (fourP s.seed ++ ([if s.over then 1 else 0] ++ [s.winner % 256]))) := by
    unfold encP
    simp only [List.append_assoc]
  obtain ⟨R, hR⟩ : ∃ R, fourP s.seed ++ ([if s.over then (1 : Int) else 0] ++ [s.winner % 256]) = R := ⟨_, rfl⟩
  have h4 := rd4_foursP s.cells R ok.cells
  rw [ok.len] at h4
  obtain ⟨l', hl⟩ : ∃ l', (rd4 16 (foursP s.cells ++ R) 0).1 = l' := ⟨_, rfl⟩
  have h5 : rd4 16 (foursP s.cells ++ R) 0 = (l', R, 0) := by rw [← hl, ← h4.2]
  have h6 : l'.map i32of = s.cells := by rw [← hl]; exact h4.1
  unfold decP
  rw [e1, hR, rdNum_num ok.frame.1 ok.frame.2]
  simp only
  rw [h5]
  simp only
  rw [← hR, tk4_fourP]
  simp only
  rw [List.singleton_append, one_cons]
  simp only
  rw [one_cons]
  simp only
  rw [h6, le_fourP ok.seed]
  have e2 : endOf [] 0 = 0 := rfl
  have e3 : le [if s.over then (1 : Int) else 0] = if s.over then 1 else 0 := by show _ + 256 * 0 = _; omega
  have e4 : le [s.winner % 256] = s.winner := by show s.winner % 256 + 256 * 0 = _; omega
  have e5 : decide ((if s.over then (1 : Int) else 0) = 1) = s.over := by cases s.over <;> rfl
  rw [e2, e3, e4, e5]
  rw [if_neg (c := (0 : Int) = 0 ∧ _) (by rintro ⟨_, h | h⟩; · revert h; cases s.over <;> simp
                                          · rw [his] at h; cases h)]
  rfl
theorem tk_err_eq {n : Nat} {bs : List Int} {e : Int} (h : (tk n bs e).2.2 = 0) : e = 0 := by
  by_cases he : e = 0
  · exact he
  · rw [tk_had he] at h; exact h
theorem tk4_back {bs r : List Int} {a : List Int} (hB : Bytes bs) (h : tk 4 bs 0 = (a, r, 0)) : bs = fourP (le a) ++ r ∧ 0 ≤ le a ∧ le a < 4294967296 := by
  by_cases hs : bs.length < 4
  · rw [tk_short hs] at h; cases h
  · rw [tk_enough hs] at h
    cases h
    match bs, hs, hB with
    | x :: y :: z :: u :: t, _, hB =>
      have h1 := hB x (by simp); have h2 := hB y (by simp); have h3 := hB z (by simp); have h4 := hB u (by simp)
      have e : le ((x :: y :: z :: u :: t).take 4) = x + 256 * (y + 256 * (z + 256 * (u + 256 * 0))) := rfl
      refine ⟨?_, by rw [e]; omega, by rw [e]; omega⟩
      rw [e]
      show x :: y :: z :: u :: t = _ :: _ :: _ :: _ :: t
      simp only [List.cons.injEq, and_true]
      refine ⟨?_, ?_, ?_, ?_⟩ <;> omega
    | [], hs, _ => exact absurd (by simp) hs
    | [_], hs, _ => exact absurd (by simp) hs
    | [_, _], hs, _ => exact absurd (by simp) hs
    | [_, _, _], hs, _ => exact absurd (by simp) hs
theorem tk1_back {bs r : List Int} {a : List Int} (h : tk 1 bs 0 = (a, r, 0)) : bs = le a :: r := by
  cases bs with
  | nil => rw [one_nil] at h; cases h
  | cons c t =>
    rw [one_cons] at h
    cases h
    show c :: r = (c + 256 * 0) :: r
    rw [Int.mul_zero, Int.add_zero]
theorem rd4_err (k : Nat) : ∀ {bs : List Int} {e : Int}, (rd4 k bs e).2.2 = 0 → e = 0 := by
  induction k with
  | zero => intro bs e h; exact h
  | succ k ih => intro bs e h; exact tk_err_eq (ih h)
theorem rd4_back : ∀ (k : Nat) {bs : List Int}, Bytes bs → (rd4 k bs 0).2.2 = 0 → bs = foursP ((rd4 k bs 0).1.map i32of) ++ (rd4 k bs 0).2.1
  | 0, bs, _, _ => rfl
  | k + 1, bs, hB, h => by
    obtain ⟨a, r, e, ha⟩ : ∃ a r e, tk 4 bs 0 = (a, r, e) := ⟨_, _, _, rfl⟩
    have he : e = 0 := by
      unfold rd4 at h
      rw [ha] at h
      exact rd4_err k h
    subst he
    obtain ⟨h1, h2⟩ := tk4_back hB ha
    have hBr : Bytes r := by have := tkB (n := 4) (e := 0) hB; rw [ha] at this; exact this
    unfold rd4 at h ⊢
    rw [ha] at h ⊢
    have ih := rd4_back k hBr h
    simp only at ih ⊢
    unfold foursP at ih ⊢
    rw [List.map_cons, List.map_cons, List.flatten_cons, mod_i32of h2, List.append_assoc, ← ih]
    exact h1
theorem endOf_zero {bs : List Int} {e : Int} (h : endOf bs e = 0) : e = 0 ∧ bs = [] := by
  unfold endOf at h
  split at h
  · omega
  · rename_i hn
    refine ⟨h, ?_⟩
    cases bs with
    | nil => rfl
    | cons c r => exact absurd ⟨h, by simp⟩ hn
/-- what is read was laid so -/
theorem encP_decP {bs : List Int} (hB : Bytes bs) (h : (decP bs).2 = 0) : encP (decP bs).1 = bs := by
  obtain ⟨fr, b1, e1, ha⟩ : ∃ fr b1 e1, rdNum bs 0 = (fr, b1, e1) := ⟨_, _, _, rfl⟩
  have hB1 : Bytes b1 := by have := rdNum_bytes (e := 0) hB; rw [ha] at this; exact this
  obtain ⟨l, b2, e2, hc⟩ : ∃ l b2 e2, rd4 16 b1 e1 = (l, b2, e2) := ⟨_, _, _, rfl⟩
  have hB2 : Bytes b2 := by have := rd4_bytes 16 (e := e1) hB1; rw [hc] at this; exact this
  obtain ⟨d, b3, e3, hd⟩ : ∃ d b3 e3, tk 4 b2 e2 = (d, b3, e3) := ⟨_, _, _, rfl⟩
  have hB3 : Bytes b3 := by have := tkB (n := 4) (e := e2) hB2; rw [hd] at this; exact this
  obtain ⟨o, b4, e4, ho⟩ : ∃ o b4 e4, tk 1 b3 e3 = (o, b4, e4) := ⟨_, _, _, rfl⟩
  obtain ⟨n, b5, e5, hn⟩ : ∃ n b5 e5, tk 1 b4 e4 = (n, b5, e5) := ⟨_, _, _, rfl⟩
  unfold decP at h ⊢
  rw [ha] at h ⊢
  simp only at h ⊢
  rw [hc] at h ⊢
  simp only at h ⊢
  rw [hd] at h ⊢
  simp only at h ⊢
  rw [ho] at h ⊢
  simp only at h ⊢
  rw [hn] at h ⊢
  simp only at h ⊢
  by_cases h3 : endOf b5 e5 = 0 ∧ (1 < le o ∨ isP ⟨fr, l.map i32of, le d, decide (le o = 1), le n⟩ = false)
  · rw [if_pos h3] at h
    rw [if_pos (by decide)] at h
    simp at h
  · rw [if_neg h3] at h ⊢
    by_cases he : endOf b5 e5 = 0
    · rw [if_neg (by simpa using he)]
      obtain ⟨rfl, rfl⟩ := endOf_zero he
      obtain rfl : e4 = 0 := tk_err_eq (by rw [hn])
      obtain rfl : e3 = 0 := tk_err_eq (by rw [ho])
      obtain rfl : e2 = 0 := tk_err_eq (by rw [hd])
      obtain rfl : e1 = 0 := rd4_err 16 (by rw [hc])
      obtain ⟨k1, -⟩ := rdNum_back hB ha
      have k2 := rd4_back 16 hB1 (by rw [hc])
      rw [hc] at k2
      simp only at k2
      obtain ⟨k3, -⟩ := tk4_back hB2 hd
      have k4 := tk1_back ho
      have k5 := tk1_back hn
      have hno : ¬ 1 < le o := fun hh => h3 ⟨he, .inl hh⟩
      have ho2 : 0 ≤ le o := (hB3 (le o) (by rw [k4]; simp)).1
      have hB4 : Bytes b4 := fun x hx => hB3 x (by rw [k4]; simp [hx])
      have hn2 := hB4 (le n) (by rw [k5]; simp)
      unfold encP
      simp only
      have e6 : (if decide (le o = 1) = true then (1 : Int) else 0) = le o := by
        by_cases h1 : le o = 1
        · rw [h1]; rfl
        · rw [decide_eq_false h1]; show (0 : Int) = le o; omega
      rw [e6, show le n % 256 = le n by omega]
      rw [k1, k2, k3, k4, k5]
      simp only [List.append_assoc, List.singleton_append]
    · rw [if_pos (by simpa using he)] at h
      exact absurd h (by simpa using he)
theorem rd4_bd (k : Nat) : ∀ {bs : List Int} {e : Int}, Bytes bs → ∀ x ∈ (rd4 k bs e).1, 0 ≤ x ∧ x < 4294967296 := by
  induction k with
  | zero => intro bs e _ x hx; simp [rd4] at hx
  | succ k ih =>
    intro bs e hB x hx
    unfold rd4 at hx
    rcases List.mem_cons.1 hx with rfl | hx
    · exact le_tk4 hB e
    · exact ih (tkB hB) x hx
theorem i32of_bd {x : Int} (h : 0 ≤ x ∧ x < 4294967296) : -2147483648 ≤ i32of x ∧ i32of x ≤ 2147483647 := by
  unfold i32of
  split <;> omega
theorem decP_ok {bs : List Int} (hB : Bytes bs) : (decP bs).1.Ok := by
  obtain ⟨fr, b1, e1, ha⟩ : ∃ fr b1 e1, rdNum bs 0 = (fr, b1, e1) := ⟨_, _, _, rfl⟩
  have hB1 : Bytes b1 := by have := rdNum_bytes (e := 0) hB; rw [ha] at this; exact this
  have hl := rd4_len 16 b1 e1
  have hb := rd4_bd 16 (e := e1) hB1
  have hB2 := rd4_bytes 16 (e := e1) hB1
  obtain ⟨l, b2, e2, hc⟩ : ∃ l b2 e2, rd4 16 b1 e1 = (l, b2, e2) := ⟨_, _, _, rfl⟩
  rw [hc] at hl hb hB2
  have hd4 := le_tk4 hB2 e2
  have hB3 := tkB (n := 4) (e := e2) hB2
  obtain ⟨d, b3, e3, hd⟩ : ∃ d b3 e3, tk 4 b2 e2 = (d, b3, e3) := ⟨_, _, _, rfl⟩
  rw [hd] at hd4 hB3
  have hB4 := tkB (n := 1) (e := e3) hB3
  obtain ⟨o, b4, e4, ho⟩ : ∃ o b4 e4, tk 1 b3 e3 = (o, b4, e4) := ⟨_, _, _, rfl⟩
  rw [ho] at hB4
  have hn1 := le_tk1 hB4 e4
  obtain ⟨n, b5, e5, hn⟩ : ∃ n b5 e5, tk 1 b4 e4 = (n, b5, e5) := ⟨_, _, _, rfl⟩
  rw [hn] at hn1
  have hz : VS.zero.Ok := ⟨by simp [VS.zero], fun c hc => by simp only [VS.zero, List.mem_replicate] at hc; omega, by simp [VS.zero], by simp [VS.zero], by simp [VS.zero]⟩
  unfold decP
  rw [ha]
  simp only
  rw [hc]
  simp only
  rw [hd]
  simp only
  rw [ho]
  simp only
  rw [hn]
  simp only at hl hb hd4 hn1 ⊢
  by_cases h3 : endOf b5 e5 = 0 ∧ (1 < le o ∨ isP ⟨fr, l.map i32of, le d, decide (le o = 1), le n⟩ = false)
  · rw [if_pos h3, if_pos (by decide)]
    exact hz
  · rw [if_neg h3]
    by_cases he : endOf b5 e5 = 0
    · rw [if_neg (by simpa using he)]
      have hp : isP ⟨fr, l.map i32of, le d, decide (le o = 1), le n⟩ = true := by
        cases hp : isP ⟨fr, l.map i32of, le d, decide (le o = 1), le n⟩ with
        | true => rfl
        | false => exact absurd ⟨he, .inr hp⟩ h3
      unfold isP at hp
      simp only [Bool.and_eq_true, decide_eq_true_eq] at hp
      refine ⟨by rw [List.length_map]; exact hl, fun c hc => ?_, by simp only; omega, hd4, by simp only; omega⟩
      obtain ⟨x, hx, rfl⟩ := List.mem_map.1 hc
      exact i32of_bd (hb x hx)
    · rw [if_pos (by simpa using he)]
      exact hz
end Go.Proofs.YtjdeeloemhjbhaaGreat
