/-
  gauntletlaw24: nums, known, requests, replies.
-/
import Derived.Test.YtlkmnbnphgfppaaWSame
import Derived.Test.YtlkmnbnphgfppaaWi1
namespace Go.Proofs.Ytlkmnbnphgfppaa
open Go.RowKit Go.Sep Go.Oct
set_option linter.unusedSimpArgs false

theorem nv_some {l : List Int} {k : Nat} {x : Int} (h : l[k]? = some x) : (nv l)[k]? = some (.int .i64 x) := nv_at h
set_option maxRecDepth 100000 in
theorem nums_any {w : World} {a b : Option Addr} {m n c d : Nat} {xs ys : List Int} (hx : Rd w a (nv xs)) (hy : Rd w b (nv ys)) (hm : xs.length = m) (hn : ys.length = n) (hb : m ≤ 1099511627776) (hb' : n ≤ 1099511627776) :
    Calls Try.prog 12 #[.slice a m c, .slice b n d] w fun e w' => e = .returned (.bool (decide (xs = ys))) ∧ ∃ nq, w' = w.drewN nq := by
  subst hm
  subst hn
  by_cases hl : xs.length = ys.length
  · have hl' : ((xs.length : Int) != (ys.length : Int)) = false := by simp [hl]
    go_enter Try.func12, Try.ntmps12
    have HL := Lib.hid hl
    clear hl
    go_wp2_with fail
    go_loopw [5] (fun i wr => ∃ k nq : Nat, k ≤ xs.length ∧ i = .int .i64 k ∧ wr = w.drewN nq ∧ Hid (xs.take k = ys.take k)) (fun i _ => xs.length - (intOf i).toNat)
    case atStart => exact ⟨0, 0, by omega, rfl, rfl, rfl⟩
    case round =>
      obtain ⟨k, nq, hk, rfl, rfl, HK⟩ := hrel
      by_cases hlt : k < xs.length
      · obtain ⟨x, hxk⟩ := at_some hlt
        have hlt2 : k < ys.length := by rw [← HL.out]; exact hlt
        obtain ⟨y, hyk⟩ := at_some hlt2
        obtain ⟨b1, off1, rfl, hc1⟩ := hx k _ (nv_at hxk)
        obtain ⟨b2, off2, rfl, hc2⟩ := hy k _ (nv_at hyk)
        have HX := Lib.hid hxk
        have HY := Lib.hid hyk
        clear hxk hyk hx hy
        by_cases hxy : x = y
        · subst hxy
          have hne : (x != x) = false := by simp
          have HK' : Hid (xs.take (k + 1) = ys.take (k + 1)) := by show _ = _; rw [List.take_add_one, List.take_add_one, HX.out, HY.out, HK.out]
          go_wp2
          go_quiet (fail)
          go_wp2
          go_roundw
          case rel => exact ⟨k + 1, _, by omega, by go_num, rfl, HK'⟩
          case measure => simp [intOf]; omega
        · have hne : (x != y) = true := by simpa using hxy
          have hd : decide (xs = ys) = false := by
            refine decide_eq_false fun e => hxy ?_
            have h1 := HX.out
            rw [e, HY.out] at h1
            exact (Option.some.inj h1).symm
          have HD := Lib.hid hd
          clear hd
          go_wp2
          go_quiet (fail)
          go_wp2
          go_ret
          exact ⟨by rw [HD.out]; rfl, _, World.drewN_drewN _ _ _⟩
      · have hd : decide (xs = ys) = true := by
          refine decide_eq_true ?_
          have h1 := HK.out
          rw [List.take_of_length_le (by omega), List.take_of_length_le (by have := HL.out; omega)] at h1
          exact h1
        have HD := Lib.hid hd
        clear hd
        go_wp2
        go_ret
        exact ⟨by rw [HD.out]; rfl, _, rfl⟩
  · have hl' : ((xs.length : Int) != (ys.length : Int)) = true := by rw [bne_iff_ne]; omega
    have hd : decide (xs = ys) = false := decide_eq_false fun e => hl (congrArg List.length e)
    have HD := Lib.hid hd
    clear hd hl
    go_enter Try.func12, Try.ntmps12
    go_wp2_with fail
    go_ret
    exact ⟨by rw [HD.out]; rfl, 0, rfl⟩

theorem least_say : (sayP 81 1 1 20 0 [] [] 4096).1.length = 17 ∧ (sayP 81 1 1 20 0 [] [] 4096).2 = 0 := by decide +kernel
set_option maxRecDepth 100000 in
theorem known_any {W0 w : World} {L : List Asn} (S : Sat W0 w L) : Calls Try.prog 10 #[] w fun e w' => e = .returned (.bool true) ∧ Sat W0 w' L := by
  have HS := Lib.hid least_say
  have HE := Lib.hid (wEncode_any S (kind := 1) (seq := 0) (by unfold I64; omega) (a := none) (m := 0) (c := 0) (nums := []) (fun w' h => Rd.nil _ _) rfl (by intro x hx; simp at hx) (b := none) (n := 0) (d := 0) (data := []) (fun w' h => Rd.nil _ _) rfl (by intro x hx; simp at hx) (by unfold maxLen; omega) (by unfold maxLen; omega))
  generalize sayP 81 1 1 20 0 [] [] 4096 = R at HS HE
  obtain ⟨r, e⟩ := R
  obtain ⟨hr, rfl⟩ : r.length = 17 ∧ e = 0 := HS.out
  have HR := Lib.hid hr
  clear hr HS
  go_enter Try.func10, Try.ntmps10
  go_wp2_with (go_at_call 9; refine HE.out.mono ?_; unfold Encoded; rintro e w2 ⟨ao, cap, rfl, S2⟩; dsimp only at S2 ⊢; rw [HR.out] at S2 ⊢)
  go_ret
  exact ⟨rfl, S2.tail⟩

set_option maxRecDepth 100000 in
set_option maxHeartbeats 3200000 in
theorem requests_any {W0 w : World} {L : List Asn} (S : Sat W0 w L) {k s k2 s2 : Int} {a b a2 b2 : Option Addr} {m n m2 n2 c d c2 d2 : Nat} {xs ds xs2 ds2 : List Int}
    (h1 : ∀ w', Sat W0 w' L → Rd w' a (nv xs)) (l1 : xs.length = m) (h2 : ∀ w', Sat W0 w' L → Rd w' b (bv ds)) (l2 : ds.length = n)
    (h3 : ∀ w', Sat W0 w' L → Rd w' a2 (nv xs2)) (l3 : xs2.length = m2) (h4 : ∀ w', Sat W0 w' L → Rd w' b2 (bv ds2)) (l4 : ds2.length = n2)
    (hm : m ≤ 1099511627776) (hn : n ≤ 1099511627776) (hm2 : m2 ≤ 1099511627776) (hn2 : n2 ≤ 1099511627776) :
    Calls Try.prog 17 #[.agg #[.int .i64 k, .int .i64 s, .slice a m c, .slice b n d], .agg #[.int .i64 k2, .int .i64 s2, .slice a2 m2 c2, .slice b2 n2 d2]] w fun e w' => e = .returned (.bool (decide (k = k2 ∧ s = s2 ∧ xs = xs2 ∧ ds = ds2))) ∧ Sat W0 w' L := by
  have S1 := (S.alloc [.int .i64 k, .int .i64 s, .slice a m c, .slice b n d] 28).alloc [.int .i64 k2, .int .i64 s2, .slice a2 m2 c2, .slice b2 n2 d2] 34
  simp only [World.size_alloc] at S1
  have c0 := S1.cell 0 rfl 0
  have c1 := S1.cell 0 rfl 1
  have c2' := S1.cell 0 rfl 2
  have c3 := S1.cell 0 rfl 3
  have e0 := S1.cell 1 rfl 0
  have e1 := S1.cell 1 rfl 1
  have e2 := S1.cell 1 rfl 2
  have e3 := S1.cell 1 rfl 3
  simp only [List.getElem?_cons_zero, List.getElem?_cons_succ] at c0 c1 c2' c3 e0 e1 e2 e3
  have H1 := Lib.hid h1
  have H2 := Lib.hid h2
  have H3 := Lib.hid h3
  have H4 := Lib.hid h4
  clear h1 h2 h3 h4
  obtain ⟨D, hD⟩ : ∃ D, decide (k = k2 ∧ s = s2 ∧ xs = xs2 ∧ ds = ds2) = D := ⟨_, rfl⟩
  rw [hD]
  have HD0 : Hid (decide (k = k2 ∧ s = s2 ∧ xs = xs2 ∧ ds = ds2) = D) := hD
  clear hD
  by_cases hk : k = k2
  case neg =>
    have hk' : (k == k2) = false := by simpa using hk
    have HD : Hid (D = false) := HD0.out.symm.trans (decide_eq_false fun h => hk h.1)
    clear hk
    go_enter Try.func17, Try.ntmps17
    go_wp2_with fail
    go_ret
    exact ⟨by rw [HD.out]; rfl, S1.tail.tail⟩
  subst hk
  have hk' : (k == k) = true := by simp
  by_cases hs : s = s2
  case neg =>
    have hs' : (s == s2) = false := by simpa using hs
    have HD : Hid (D = false) := HD0.out.symm.trans (decide_eq_false fun h => hs h.2.1)
    clear hs
    go_enter Try.func17, Try.ntmps17
    go_wp2_with fail
    go_ret
    exact ⟨by rw [HD.out]; rfl, S1.tail.tail⟩
  subst hs
  have hs' : (s == s) = true := by simp
  by_cases hx : xs = xs2
  case neg =>
    have HX : Hid (decide (xs = xs2) = false) := decide_eq_false hx
    have HD : Hid (D = false) := HD0.out.symm.trans (decide_eq_false fun h => hx h.2.2.1)
    clear hx
    go_enter Try.func17, Try.ntmps17
    go_wp2_with (go_at_call 12; refine (nums_any (H1.out _ S1.tail.tail) (H3.out _ S1.tail.tail) l1 l3 hm hm2).mono ?_; rw [HX.out]; rintro e wz ⟨rfl, nq, hw⟩; have S2 : Sat W0 wz _ := hw ▸ S1.drewN nq; clear hw)
    go_ret
    exact ⟨by rw [HD.out]; rfl, S2.tail.tail⟩
  have HX : Hid (decide (xs = xs2) = true) := decide_eq_true hx
  have HD : Hid (D = decide (ds = ds2)) := by show D = _; rw [← HD0.out]; simp [hx]
  clear hx
  go_enter Try.func17, Try.ntmps17
  go_wp2_with (first
    | (go_at_call 12; refine (nums_any (H1.out _ S1.tail.tail) (H3.out _ S1.tail.tail) l1 l3 hm hm2).mono ?_; rw [HX.out]; rintro e wz ⟨rfl, nq, hw⟩; have S2 : Sat W0 wz _ := hw ▸ S1.drewN nq; clear hw; have d0 := S2.cell 0 rfl 3; have d1 := S2.cell 1 rfl 3; simp only [List.getElem?_cons_zero, List.getElem?_cons_succ] at d0 d1)
    | (go_at_call 11; refine (same_any (H2.out _ S2.tail.tail) (H4.out _ S2.tail.tail) l2 l4 hn hn2).mono ?_; rintro e wy ⟨rfl, nq2, hw⟩; have S3 : Sat W0 wy _ := hw ▸ S2.drewN nq2; clear hw))
  go_ret
  exact ⟨by rw [HD.out]; rfl, S3.tail.tail⟩

set_option maxRecDepth 100000 in
set_option maxHeartbeats 3200000 in
theorem replies_any {W0 w : World} {L : List Asn} (S : Sat W0 w L) {k s k2 s2 : Int} {a b a2 b2 : Option Addr} {m n m2 n2 c d c2 d2 : Nat} {xs ds xs2 ds2 : List Int}
    (h1 : ∀ w', Sat W0 w' L → Rd w' a (nv xs)) (l1 : xs.length = m) (h2 : ∀ w', Sat W0 w' L → Rd w' b (bv ds)) (l2 : ds.length = n)
    (h3 : ∀ w', Sat W0 w' L → Rd w' a2 (nv xs2)) (l3 : xs2.length = m2) (h4 : ∀ w', Sat W0 w' L → Rd w' b2 (bv ds2)) (l4 : ds2.length = n2)
    (hm : m ≤ 1099511627776) (hn : n ≤ 1099511627776) (hm2 : m2 ≤ 1099511627776) (hn2 : n2 ≤ 1099511627776) :
    Calls Try.prog 21 #[.agg #[.int .i64 s, .int .i64 k, .slice a m c, .slice b n d], .agg #[.int .i64 s2, .int .i64 k2, .slice a2 m2 c2, .slice b2 n2 d2]] w fun e w' => e = .returned (.bool (decide (k = k2 ∧ s = s2 ∧ xs = xs2 ∧ ds = ds2))) ∧ Sat W0 w' L := by
  have S1 := (S.alloc [.int .i64 s, .int .i64 k, .slice a m c, .slice b n d] 46).alloc [.int .i64 s2, .int .i64 k2, .slice a2 m2 c2, .slice b2 n2 d2] 43
  simp only [World.size_alloc] at S1
  have c0 := S1.cell 0 rfl 0
  have c1 := S1.cell 0 rfl 1
  have c2' := S1.cell 0 rfl 2
  have c3 := S1.cell 0 rfl 3
  have e0 := S1.cell 1 rfl 0
  have e1 := S1.cell 1 rfl 1
  have e2 := S1.cell 1 rfl 2
  have e3 := S1.cell 1 rfl 3
  simp only [List.getElem?_cons_zero, List.getElem?_cons_succ] at c0 c1 c2' c3 e0 e1 e2 e3
  have H1 := Lib.hid h1
  have H2 := Lib.hid h2
  have H3 := Lib.hid h3
  have H4 := Lib.hid h4
  clear h1 h2 h3 h4
  obtain ⟨D, hD⟩ : ∃ D, decide (k = k2 ∧ s = s2 ∧ xs = xs2 ∧ ds = ds2) = D := ⟨_, rfl⟩
  rw [hD]
  have HD0 : Hid (decide (k = k2 ∧ s = s2 ∧ xs = xs2 ∧ ds = ds2) = D) := hD
  clear hD
  by_cases hk : k = k2
  case neg =>
    have hk' : (k == k2) = false := by simpa using hk
    have HD : Hid (D = false) := HD0.out.symm.trans (decide_eq_false fun h => hk h.1)
    clear hk
    go_enter Try.func21, Try.ntmps21
    go_wp2_with fail
    go_ret
    exact ⟨by rw [HD.out]; rfl, S1.tail.tail⟩
  subst hk
  have hk' : (k == k) = true := by simp
  by_cases hs : s = s2
  case neg =>
    have hs' : (s == s2) = false := by simpa using hs
    have HD : Hid (D = false) := HD0.out.symm.trans (decide_eq_false fun h => hs h.2.1)
    clear hs
    go_enter Try.func21, Try.ntmps21
    go_wp2_with fail
    go_ret
    exact ⟨by rw [HD.out]; rfl, S1.tail.tail⟩
  subst hs
  have hs' : (s == s) = true := by simp
  by_cases hx : xs = xs2
  case neg =>
    have HX : Hid (decide (xs = xs2) = false) := decide_eq_false hx
    have HD : Hid (D = false) := HD0.out.symm.trans (decide_eq_false fun h => hx h.2.2.1)
    clear hx
    go_enter Try.func21, Try.ntmps21
    go_wp2_with (go_at_call 12; refine (nums_any (H1.out _ S1.tail.tail) (H3.out _ S1.tail.tail) l1 l3 hm hm2).mono ?_; rw [HX.out]; rintro e wz ⟨rfl, nq, hw⟩; have S2 : Sat W0 wz _ := hw ▸ S1.drewN nq; clear hw)
    go_ret
    exact ⟨by rw [HD.out]; rfl, S2.tail.tail⟩
  have HX : Hid (decide (xs = xs2) = true) := decide_eq_true hx
  have HD : Hid (D = decide (ds = ds2)) := by show D = _; rw [← HD0.out]; simp [hx]
  clear hx
  go_enter Try.func21, Try.ntmps21
  go_wp2_with (first
    | (go_at_call 12; refine (nums_any (H1.out _ S1.tail.tail) (H3.out _ S1.tail.tail) l1 l3 hm hm2).mono ?_; rw [HX.out]; rintro e wz ⟨rfl, nq, hw⟩; have S2 : Sat W0 wz _ := hw ▸ S1.drewN nq; clear hw; have d0 := S2.cell 0 rfl 3; have d1 := S2.cell 1 rfl 3; simp only [List.getElem?_cons_zero, List.getElem?_cons_succ] at d0 d1)
    | (go_at_call 11; refine (same_any (H2.out _ S2.tail.tail) (H4.out _ S2.tail.tail) l2 l4 hn hn2).mono ?_; rintro e wy ⟨rfl, nq2, hw⟩; have S3 : Sat W0 wy _ := hw ▸ S2.drewN nq2; clear hw))
  go_ret
  exact ⟨by rw [HD.out]; rfl, S3.tail.tail⟩
end Go.Proofs.Ytlkmnbnphgfppaa
