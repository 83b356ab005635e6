/-
  wire, plain: Encode and Decode, said of each other.
-/
import Derived.Test.YtdgalljalcediaaWiL
import Derived.Test.YtdgalljalcediaaFrL
namespace Go.Oct
open Go.RowKit

theorem openF_rec {p : List Int} (hl : p.length ≤ 65536) : openF (recP p) = (p, 0) := by
  have h := decF_rec (r := []) hl
  rw [List.append_nil] at h
  unfold openF
  rw [h, if_pos rfl, if_pos (by rw [recP_length]; simp only; omega)]
theorem openF_back {bs : List Int} (hB : Bytes bs) (h : (openF bs).2 = 0) : bs = recP (openF bs).1 ∧ (openF bs).1.length ≤ 65536 := by
  obtain ⟨p, l, e, hd⟩ : ∃ p l e, decF bs = (p, l, e) := ⟨_, _, _, rfl⟩
  have hO : openF bs = if e = 0 then (if l = (bs.length : Int) then (p, 0) else ([], 3)) else ([], e) := by unfold openF; rw [hd]
  rw [hO] at h ⊢
  by_cases he : e = 0
  · subst he
    rw [if_pos rfl] at h ⊢
    by_cases hl : l = (bs.length : Int)
    · rw [if_pos hl]
      obtain ⟨h1, h2, r, h3⟩ := decF_back hB hd
      have hr : r = [] := by
        have := congrArg List.length h3
        rw [List.length_append, recP_length] at this
        exact List.length_eq_zero_iff.1 (by omega)
      subst hr
      rw [List.append_nil] at h3
      exact ⟨h3, h1⟩
    · rw [if_neg hl] at h; exact absurd h (by decide)
  · rw [if_neg he] at h; exact absurd h he
theorem openF_err {bs : List Int} (h : (decF bs).2.2 ≠ 0) : (openF bs).2 ≠ 0 := by
  unfold openF
  rw [if_neg h]
  exact h
theorem openF_more {p : List Int} (hl : p.length ≤ 65536) (c : Int) : openF (recP p ++ [c]) = ([], 3) := by
  unfold openF
  rw [decF_rec hl, if_pos rfl, if_neg (by rw [List.length_append, recP_length]; simp only [List.length_cons, List.length_nil]; omega)]
theorem takeP_err {mark least top : Int} {most : Nat} {b : List Int} (h : (openF b).2 ≠ 0) : takeP mark least top most b = (0, 0, [], [], (openF b).2) := by
  unfold takeP; rw [if_pos h]

theorem say_ok {mark kind least top seq : Int} {nums data : List Int} {most : Nat} (h : (sayP mark kind least top seq nums data most).2 = 0) :
    maySay kind least top seq nums.length data.length most = 0 ∧ (bodyB mark kind seq nums data).length ≤ 65536 ∧ sayP mark kind least top seq nums data most = (recP (bodyB mark kind seq nums data), 0) := by
  unfold sayP at h ⊢
  by_cases hm : maySay kind least top seq nums.length data.length most = 0
  · rw [if_neg (by simp [hm])] at h ⊢
    unfold encF at h ⊢
    by_cases hl : 65536 < (bodyB mark kind seq nums data).length
    · rw [if_pos hl] at h; exact absurd h (by decide)
    · rw [if_neg hl]; exact ⟨hm, by omega, rfl⟩
  · rw [if_pos hm] at h; exact absurd h hm
theorem say_length (mark kind least top seq : Int) (nums data : List Int) (most : Nat) : (sayP mark kind least top seq nums data most).1.length ≤ 65548 := by
  unfold sayP encF
  split
  · exact Nat.zero_le _
  · split
    · exact Nat.zero_le _
    · rw [recP_length]; omega
theorem may_ok {kind least top seq : Int} {n d most : Nat} (h : maySay kind least top seq n d most = 0) : least ≤ kind ∧ kind ≤ top ∧ (0 ≤ seq ∧ seq ≤ 9007199254740992) ∧ n ≤ 80 ∧ d ≤ most := by
  unfold maySay at h
  split at h
  · exact absurd h (by decide)
  · split at h
    · exact absurd h (by decide)
    · omega
theorem take_say {mark kind least top seq : Int} {nums data : List Int} {most : Nat} (hmo : most ≤ 1000000) (hn : I64s nums) (h : (sayP mark kind least top seq nums data most).2 = 0) :
    takeP mark least top most (sayP mark kind least top seq nums data most).1 = (kind, seq, nums, data, 0) := by
  obtain ⟨h1, h2, h3⟩ := say_ok h
  obtain ⟨_, _, hs, hnl, hdl⟩ := may_ok h1
  rw [h3]
  unfold takeP
  rw [openF_rec h2, if_neg (by simp)]
  simp only
  rw [parts_body (by unfold I64; omega) hn (by omega) (by omega)]
  simp only
  rw [if_neg (by omega), if_neg (by simp [h1])]
theorem take_other {mark kind least top seq : Int} {nums data : List Int} {most : Nat} (hmo : most ≤ 1000000) (hn : I64s nums) (h : (sayP mark kind least top seq nums data most).2 = 0)
    {mark2 least2 top2 : Int} {most2 : Nat} (hne : mark ≠ mark2) : takeP mark2 least2 top2 most2 (sayP mark kind least top seq nums data most).1 = (0, 0, [], [], 3) := by
  obtain ⟨h1, h2, h3⟩ := say_ok h
  obtain ⟨_, _, hs, hnl, hdl⟩ := may_ok h1
  rw [h3]
  unfold takeP
  rw [openF_rec h2, if_neg (by simp)]
  simp only
  rw [parts_body (by unfold I64; omega) hn (by omega) (by omega)]
  simp only
  rw [if_neg (by omega), if_pos (Or.inr (Or.inl hne))]
/-- two requests have the same frame just if they are one -/
theorem say_inj {mark kind least top seq : Int} {nums data : List Int} {most : Nat} (hmo : most ≤ 1000000) (hn : I64s nums) (h : (sayP mark kind least top seq nums data most).2 = 0)
    {kind2 seq2 : Int} {nums2 data2 : List Int} (hn2 : I64s nums2) (h2 : (sayP mark kind2 least top seq2 nums2 data2 most).2 = 0) :
    (sayP mark kind least top seq nums data most).1 = (sayP mark kind2 least top seq2 nums2 data2 most).1 ↔ (kind = kind2 ∧ seq = seq2 ∧ nums = nums2 ∧ data = data2) := by
  constructor
  · intro e
    have t1 := take_say hmo hn h
    have t2 := take_say hmo hn2 h2
    rw [e, t2] at t1
    cases t1
    exact ⟨rfl, rfl, rfl, rfl⟩
  · rintro ⟨rfl, rfl, rfl, rfl⟩
    rfl
/-- what is read is written so -/
theorem say_take {mark least top : Int} {most : Nat} {b : List Int} (hB : Bytes b) (h : (takeP mark least top most b).2.2.2.2 = 0) :
    sayP mark (takeP mark least top most b).1 least top (takeP mark least top most b).2.1 (takeP mark least top most b).2.2.1 (takeP mark least top most b).2.2.2.1 most = (b, 0) := by
  unfold takeP at h ⊢
  by_cases ho : (openF b).2 = 0
  case neg => rw [if_pos ho] at h; exact absurd h ho
  rw [if_neg (by simp [ho])] at h ⊢
  simp only at h ⊢
  by_cases hm : (partsOf (openF b).1).many < 0 ∨ 80 < (partsOf (openF b).1).many
  · rw [if_pos hm] at h; exact absurd h (by decide)
  rw [if_neg hm] at h ⊢
  split at h
  · exact absurd h (by decide)
  rename_i hh
  rw [if_neg hh]
  simp only
  obtain ⟨hb, hl⟩ := openF_back hB ho
  have hBp : Bytes (openF b).1 := by
    intro x hx
    have : x ∈ b := by
      rw [hb]
      unfold recP
      rw [List.append_assoc]
      exact List.mem_append_right _ (List.mem_append_left _ hx)
    exact hB x this
  have hf : (partsOf (openF b).1).fin = 0 := Classical.byContradiction fun x => hh (Or.inl x)
  have hmk : (partsOf (openF b).1).mark = mark := Classical.byContradiction fun x => hh (Or.inr (Or.inl x))
  have hmy : maySay (partsOf (openF b).1).kind least top (partsOf (openF b).1).seq (partsOf (openF b).1).nums.length (partsOf (openF b).1).data.length most = 0 := Classical.byContradiction fun x => hh (Or.inr (Or.inr x))
  obtain ⟨hp, _⟩ := parts_back hBp hf (by omega)
  rw [hmk] at hp
  unfold sayP
  rw [if_neg (by simp [hmy]), ← hp]
  unfold encF
  rw [if_neg (by omega), ← hb]
/-- a frame of which one byte is another one, that is cut short, or has something behind -/
theorem take_cut {p : List Int} (hl : p.length ≤ 65536) {k : Nat} (hk : k < (recP p).length) {mark least top : Int} {most : Nat} : (takeP mark least top most ((recP p).take k)).2.2.2.2 ≠ 0 := by
  have h := openF_err (decF_cut hl hk)
  rw [takeP_err h]
  exact h
theorem take_set {p : List Int} (hp : Bytes p) (hl : p.length ≤ 65536) {k : Nat} (hk : k < (recP p).length) {c : Int} (hc : 0 ≤ c ∧ c < 256) (hne : (recP p)[k]? ≠ some c) {mark least top : Int} {most : Nat} : (takeP mark least top most ((recP p).set k c)).2.2.2.2 ≠ 0 := by
  have h := openF_err (decF_set hp hl hk hc hne)
  rw [takeP_err h]
  exact h
theorem take_more {p : List Int} (hl : p.length ≤ 65536) (c : Int) {mark least top : Int} {most : Nat} : takeP mark least top most (recP p ++ [c]) = (0, 0, [], [], 3) := by
  have h := openF_more hl c
  rw [takeP_err (by rw [h]; simp), h]
end Go.Oct
