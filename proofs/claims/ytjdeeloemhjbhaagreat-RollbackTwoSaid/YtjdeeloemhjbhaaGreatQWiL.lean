/-
  wire, plain: what was laid is read as it was, and what is read was laid so.
-/
import Derived.Test.YtjdeeloemhjbhaaGreatQWiQ

namespace Go.Oct
open Go.RowKit

theorem rd_back : ∀ (n k : Nat) (x : Int) (bs r : List Int) (v : Int), n + k = 9 → Bytes bs → 0 ≤ x → x < 128 ^ k → rdNumFrom k x bs 0 = (v, r, 0) →
    ∃ y, 0 ≤ y ∧ y < 128 ^ (n + 1) ∧ (0 < k → 0 < y) ∧ bs = digs n y ++ r ∧ v = (if (x + y * 128 ^ k) % 2 = 0 then (x + y * 128 ^ k) / 2 else -((x + y * 128 ^ k) / 2) - 1) ∧ x + y * 128 ^ k < 18446744073709551616
  | n, k, x, [], r, v, hn, hB, h0, h1, h => by rw [rdNumFrom_nil (by omega)] at h; cases h
  | n, k, x, c :: t, r, v, hn, hB, h0, h1, h => by
    have hc := hB c (by simp)
    by_cases hb : (k = 9 ∧ 1 < c) ∨ (0 < k ∧ c = 0)
    · rw [rdNumFrom_bad (by omega) hb] at h; cases h
    by_cases h8 : c < 128
    · rw [rdNumFrom_last (by omega) hb h8] at h
      cases h
      have hp : (1 : Int) ≤ 128 ^ n := Int.pow_pos (by decide)
      refine ⟨c, hc.1, by rw [Int.pow_succ]; omega, by omega, by rw [digs_lt n h8]; rfl, rfl, ?_⟩
      have := acc_top (k := k) h1 hc.1 (by omega)
      rwa [show c % 128 = c by omega] at this
    · rw [rdNumFrom_more (by omega) hb h8] at h
      cases n with
      | zero => omega
      | succ n =>
        have ha := acc_bd (k := k) hc.1 (.inl (by omega))
        obtain ⟨y, y0, y1, y2, y3, y4, y5⟩ := rd_back n (k + 1) _ t r v (by omega) (fun z hz => hB z (by simp [hz])) (by omega) (acc_lt h1 hc.1 (by omega)) h
        have hy := y2 (by omega)
        have e1 : x + c % 128 * 128 ^ k + y * 128 ^ (k + 1) = x + (c % 128 + 128 * y) * 128 ^ k := by
          rw [Int.pow_succ, Int.add_mul, Int.add_assoc]
          congr 2
          rw [Int.mul_comm ((128 : Int) ^ k) 128, ← Int.mul_assoc, Int.mul_comm y 128]
        rw [e1] at y4 y5
        refine ⟨c % 128 + 128 * y, by omega, by rw [Int.pow_succ]; omega, by omega, ?_, y4, y5⟩
        rw [digs_ge n (by omega), show (c % 128 + 128 * y) % 128 + 128 = c by omega, show (c % 128 + 128 * y) / 128 = y by omega, y3]
        rfl
theorem rdNum_back {bs r : List Int} {v : Int} (hB : Bytes bs) (h : rdNum bs 0 = (v, r, 0)) : bs = num v ++ r ∧ I64 v := by
  obtain ⟨y, y0, y1, _, y3, y4, y5⟩ := rd_back 9 0 0 bs r v rfl hB (by omega) (by decide) h
  simp only [Int.pow_zero, Int.mul_one, Int.zero_add] at y4 y5
  have hz : zig v = y := by subst y4; unfold zig; split <;> split <;> omega
  refine ⟨by unfold num; rw [hz]; exact y3, ?_⟩
  subst y4
  unfold I64
  split <;> omega
theorem rdNum_err' {bs : List Int} {e : Int} (he : e ≠ 0) : rdNum bs e = (0, bs, e) := rdNumFrom_err (by omega) he
theorem rdNums_nums : ∀ (l r : List Int), I64s l → rdNums l.length (numsB l ++ r) 0 = (l, r, 0)
  | [], r, _ => rfl
  | x :: t, r, h => by
    have e1 : numsB (x :: t) ++ r = num x ++ (numsB t ++ r) := by rw [show numsB (x :: t) = num x ++ numsB t from rfl, List.append_assoc]
    have e2 := rdNum_num (h x (by simp)).1 (h x (by simp)).2 (numsB t ++ r)
    rw [e1, List.length_cons, rdNums, e2]
    simp only
    rw [rdNums_nums t r (fun y hy => h y (by simp [hy]))]
theorem rdNums_err : ∀ (k : Nat) {bs : List Int} {e : Int}, e ≠ 0 → (rdNums k bs e).2 = (bs, e)
  | 0, _, _, _ => rfl
  | k + 1, bs, e, he => by rw [rdNums, rdNum_err' he]; exact rdNums_err k he
theorem rdNums_back : ∀ (k : Nat) {bs l r : List Int}, Bytes bs → rdNums k bs 0 = (l, r, 0) → bs = numsB l ++ r ∧ I64s l ∧ l.length = k
  | 0, bs, l, r, _, h => by cases h; exact ⟨rfl, fun x hx => by simp at hx, rfl⟩
  | k + 1, bs, l, r, hB, h => by
    obtain ⟨v, b2, e2, hv⟩ : ∃ v b2 e2, rdNum bs 0 = (v, b2, e2) := ⟨_, _, _, rfl⟩
    rw [rdNums, hv] at h
    simp only at h
    by_cases he : e2 = 0
    · subst he
      obtain ⟨l2, r2, e3, h3⟩ : ∃ l2 r2 e3, rdNums k b2 0 = (l2, r2, e3) := ⟨_, _, _, rfl⟩
      rw [h3] at h
      cases h
      have hb2 : Bytes b2 := by have := rdNum_bytes (e := 0) hB; rw [hv] at this; exact this
      obtain ⟨n1, n2⟩ := rdNum_back hB hv
      obtain ⟨m1, m2, m3⟩ := rdNums_back k hb2 h3
      refine ⟨by rw [n1, m1]; simp [numsB], ?_, by simp [m3]⟩
      intro y hy
      rcases List.mem_cons.1 hy with rfl | hy
      · exact n2
      · exact m2 y hy
    · have := rdNums_err k (bs := b2) he
      rw [this] at h
      exact absurd (congrArg (fun p => p.2.2) h) he
theorem rdBytes_data {d : List Int} (h : d.length ≤ 16777216) : rdBytes (num d.length ++ d) 0 = (d, [], 0) := by
  have e1 := rdNum_num (v := (d.length : Int)) (by omega) (by omega) d
  unfold rdBytes
  rw [e1, if_neg (by simp only; omega)]
  simp only [Int.toNat_natCast]
  rw [tk_ge (Nat.le_refl _), List.take_length, List.drop_length]
theorem rdBytes_err {bs : List Int} {e : Int} (he : e ≠ 0) : (rdBytes bs e).2.2 = e := by
  unfold rdBytes
  rw [rdNum_err' he, if_neg (by simp)]
  rw [tk_err he]
theorem rdBytes_back {bs d r : List Int} (hB : Bytes bs) (h : rdBytes bs 0 = (d, r, 0)) : bs = num d.length ++ d ++ r ∧ d.length ≤ 16777216 ∧ Bytes d := by
  obtain ⟨v, b2, e2, hv⟩ : ∃ v b2 e2, rdNum bs 0 = (v, b2, e2) := ⟨_, _, _, rfl⟩
  unfold rdBytes at h
  rw [hv] at h
  simp only at h
  by_cases hr : v < 0 ∨ 16777216 < v
  · rw [if_pos hr] at h; cases h
  rw [if_neg hr] at h
  have he : e2 = 0 := Classical.byContradiction fun he => by rw [tk_err he] at h; cases h; exact he rfl
  subst he
  have hb2 : Bytes b2 := by have := rdNum_bytes (e := 0) hB; rw [hv] at this; exact this
  obtain ⟨n1, _⟩ := rdNum_back hB hv
  by_cases hl : b2.length < v.toNat
  · rw [tk_lt hl] at h; cases h
  rw [tk_ge (by omega)] at h
  cases h
  have hl2 : (b2.take v.toNat).length = v.toNat := by rw [List.length_take]; omega
  refine ⟨?_, by omega, hb2.take _⟩
  rw [hl2, List.append_assoc, List.take_append_drop, Int.toNat_of_nonneg (by omega)]
  exact n1
theorem parts_body {mark kind seq : Int} {nums data : List Int} (hs : I64 seq) (hn : I64s nums) (hl : nums.length ≤ 1000000) (hd : data.length ≤ 1000000) :
    partsOf (bodyB mark kind seq nums data) = ⟨mark, kind, seq, nums.length, nums, data, 0⟩ := by
  obtain ⟨t4, h4⟩ : ∃ t4, num data.length ++ data = t4 := ⟨_, rfl⟩
  obtain ⟨t3, h3⟩ : ∃ t3, numsB nums ++ t4 = t3 := ⟨_, rfl⟩
  obtain ⟨t2, h2⟩ : ∃ t2, num nums.length ++ t3 = t2 := ⟨_, rfl⟩
  have hb : bodyB mark kind seq nums data = mark :: kind :: (num seq ++ t2) := by
    unfold bodyB
    rw [← h2, ← h3, ← h4]
    simp
  have e1 : r1 (bodyB mark kind seq nums data) = ([mark], kind :: (num seq ++ t2), 0) := by
    unfold r1; rw [hb, tk_ge (by simp)]; rfl
  have e2 : r2 (bodyB mark kind seq nums data) = ([kind], num seq ++ t2, 0) := by
    unfold r2; rw [e1]; simp only; rw [tk_ge (by simp)]; rfl
  have e3 : r3 (bodyB mark kind seq nums data) = (seq, t2, 0) := by
    unfold r3; rw [e2]; exact rdNum_num hs.1 hs.2 t2
  have e4 : r4 (bodyB mark kind seq nums data) = ((nums.length : Int), t3, 0) := by
    unfold r4; rw [e3, ← h2]; exact rdNum_num (by omega) (by omega) t3
  have e5 : r5 (bodyB mark kind seq nums data) = (nums, t4, 0) := by
    unfold r5; rw [e4, ← h3]; simp only [Int.toNat_natCast]; exact rdNums_nums nums t4 hn
  have e6 : r6 (bodyB mark kind seq nums data) = (data, [], 0) := by
    unfold r6; rw [e5, ← h4]; exact rdBytes_data (by omega)
  unfold partsOf
  rw [e1, e2, e3, e4, e5, e6]
  simp [le, endsF]
theorem tk1_back {bs c r : List Int} (h : tk 1 bs 0 = (c, r, 0)) : bs = le c :: r := by
  by_cases hl : bs.length < 1
  · rw [tk_lt hl] at h; cases h
  rw [tk_ge (by omega)] at h
  cases bs with
  | nil => exact absurd (by decide) hl
  | cons x t => cases h; simp [le]
theorem parts_back {p : List Int} (hB : Bytes p) (hf : (partsOf p).fin = 0) (hm : 0 ≤ (partsOf p).many) :
    p = bodyB (partsOf p).mark (partsOf p).kind (partsOf p).seq (partsOf p).nums (partsOf p).data ∧ I64 (partsOf p).seq ∧ I64s (partsOf p).nums ∧ ((partsOf p).nums.length : Int) = (partsOf p).many ∧ (partsOf p).data.length ≤ 16777216 ∧ Bytes (partsOf p).data := by
  obtain ⟨c1, s1, x1, h1⟩ : ∃ c s x, tk 1 p 0 = (c, s, x) := ⟨_, _, _, rfl⟩
  obtain ⟨c2, s2, x2, h2⟩ : ∃ c s x, tk 1 s1 x1 = (c, s, x) := ⟨_, _, _, rfl⟩
  obtain ⟨sq, s3, x3, h3⟩ : ∃ c s x, rdNum s2 x2 = (c, s, x) := ⟨_, _, _, rfl⟩
  obtain ⟨mn, s4, x4, h4⟩ : ∃ c s x, rdNum s3 x3 = (c, s, x) := ⟨_, _, _, rfl⟩
  obtain ⟨ns, s5, x5, h5⟩ : ∃ c s x, rdNums mn.toNat s4 x4 = (c, s, x) := ⟨_, _, _, rfl⟩
  obtain ⟨d, s6, x6, h6⟩ : ∃ c s x, rdBytes s5 x5 = (c, s, x) := ⟨_, _, _, rfl⟩
  have e1 : r1 p = (c1, s1, x1) := h1
  have e2 : r2 p = (c2, s2, x2) := by unfold r2; rw [e1]; exact h2
  have e3 : r3 p = (sq, s3, x3) := by unfold r3; rw [e2]; exact h3
  have e4 : r4 p = (mn, s4, x4) := by unfold r4; rw [e3]; exact h4
  have e5 : r5 p = (ns, s5, x5) := by unfold r5; rw [e4]; exact h5
  have e6 : r6 p = (d, s6, x6) := by unfold r6; rw [e5]; exact h6
  have hp : partsOf p = ⟨le c1, le c2, sq, mn, ns, d, endsF s6 x6⟩ := by unfold partsOf; rw [e1, e2, e3, e4, e5, e6]
  rw [hp] at hf hm ⊢
  simp only at hf hm ⊢
  clear e1 e2 e3 e4 e5 e6 hp
  have z6 : x6 = 0 ∧ s6 = [] := by
    unfold endsF at hf
    split at hf
    · exact absurd hf (by decide)
    · rename_i h
      subst hf
      refine ⟨rfl, ?_⟩
      cases s6 with
      | nil => rfl
      | cons a t => exact absurd ⟨rfl, by simp⟩ h
  obtain ⟨rfl, rfl⟩ := z6
  have z5 : x5 = 0 := Classical.byContradiction fun h => by have := rdBytes_err (bs := s5) h; rw [h6] at this; exact h this.symm
  subst z5
  have z4 : x4 = 0 := Classical.byContradiction fun h => by have := rdNums_err mn.toNat (bs := s4) h; rw [h5] at this; exact h (congrArg Prod.snd this).symm
  subst z4
  have z3 : x3 = 0 := Classical.byContradiction fun h => by rw [rdNum_err' h] at h4; exact h (congrArg (fun q => q.2.2) h4)
  subst z3
  have z2 : x2 = 0 := Classical.byContradiction fun h => by rw [rdNum_err' h] at h3; exact h (congrArg (fun q => q.2.2) h3)
  subst z2
  have z1 : x1 = 0 := Classical.byContradiction fun h => by rw [tk_err h] at h2; exact h (congrArg (fun q => q.2.2) h2)
  subst z1
  have b1 : Bytes s1 := by have := (tk_bytes (n := 1) 0 hB).2; rw [h1] at this; exact this
  have b2 : Bytes s2 := by have := (tk_bytes (n := 1) 0 b1).2; rw [h2] at this; exact this
  have b3 : Bytes s3 := by have := rdNum_bytes (e := 0) b2; rw [h3] at this; exact this
  have b4 : Bytes s4 := by have := rdNum_bytes (e := 0) b3; rw [h4] at this; exact this
  have b5 : Bytes s5 := by have := rdNums_bytes mn.toNat (e := 0) b4; rw [h5] at this; exact this
  obtain ⟨n3, i3⟩ := rdNum_back b2 h3
  obtain ⟨n4, _⟩ := rdNum_back b3 h4
  obtain ⟨n5, i5, l5⟩ := rdNums_back _ b4 h5
  obtain ⟨n6, l6, b6⟩ := rdBytes_back b5 h6
  have l5' : (ns.length : Int) = mn := by omega
  refine ⟨?_, i3, i5, l5', l6, b6⟩
  unfold bodyB
  rw [tk1_back h1, tk1_back h2, n3, n4, n5, n6, l5']
  simp
end Go.Oct
