/-
  Chapters 9 and 10's document: whether a program, a game, a state is one; the beginning.
-/
import Derived.Test.YtjdeeloemhjbhaaGreatQVmS
import Derived.Test.YtjdeeloemhjbhaaGreatQVmU
import Derived.Test.YtjdeeloemhjbhaaGreatQVmW0

namespace Go.Proofs.YtjdeeloemhjbhaaGreat
open Go.RowKit Go.Sep Go.Vm
set_option linter.unusedSimpArgs false

set_option maxRecDepth 100000 in
set_option maxHeartbeats 3200000 in
theorem rmay_any {W0 w : World} {L : List Asn} (S : Sat W0 w L) (op arg : Int) (n : Nat) (hn : n ≤ maxLen) :
    Calls Tryz.prog 44 #[.agg #[.int .i64 op, .int .i64 arg], .int .i64 n] w fun e w' => e = .returned (.bool (mayP op arg n)) ∧ Sat W0 w' L := by
  unfold maxLen at hn
  have S1 := S.alloc [.int .i64 op, .int .i64 arg] 95
  by_cases hk : op = 1 ∨ op = 2 ∨ op = 3 ∨ op = 16 ∨ op = 18 ∨ op = 19 ∨ op = 20
  · rcases hk with rfl | rfl | rfl | rfl | rfl | rfl | rfl
    · rcases (show arg < -2147483648 ∨ (-2147483648 ≤ arg ∧ arg ≤ 2147483647) ∨ 2147483647 < arg by omega) with h0 | ⟨h0, h1⟩ | h0
      all_goals
        go_enter Tryz.func44, Tryz.ntmps44
        go_wp2_with fail
        go_ret
        exact ⟨by rw [may1]; first | (simp; omega; done) | (rw [decide_eq_true (show _ ∧ _ from ⟨by omega, by omega⟩)]; simp; omega) | (show Ending.returned (Value.bool (decide (arg < 16))) = _; rw [decide_eq_false (by omega), decide_eq_false (by omega)]), S1.tail⟩
    · rcases (show arg < 0 ∨ (0 ≤ arg ∧ arg < 16) ∨ 16 ≤ arg by omega) with h0 | ⟨h0, h1⟩ | h0
      all_goals
        go_enter Tryz.func44, Tryz.ntmps44
        go_wp2_with fail
        go_ret
        exact ⟨by rw [may2]; first | (simp; omega; done) | (rw [decide_eq_true (show _ ∧ _ from ⟨by omega, by omega⟩)]; simp; omega) | (show Ending.returned (Value.bool (decide (arg < 16))) = _; rw [decide_eq_false (by omega), decide_eq_false (by omega)]), S1.tail⟩
    · rcases (show arg < 0 ∨ (0 ≤ arg ∧ arg < 16) ∨ 16 ≤ arg by omega) with h0 | ⟨h0, h1⟩ | h0
      all_goals
        go_enter Tryz.func44, Tryz.ntmps44
        go_wp2_with fail
        go_ret
        exact ⟨by rw [may3]; first | (simp; omega; done) | (rw [decide_eq_true (show _ ∧ _ from ⟨by omega, by omega⟩)]; simp; omega) | (show Ending.returned (Value.bool (decide (arg < 16))) = _; rw [decide_eq_false (by omega), decide_eq_false (by omega)]), S1.tail⟩
    · by_cases h0 : arg = 0
      · subst h0
        go_enter Tryz.func44, Tryz.ntmps44
        go_wp2_with fail
        go_ret
        exact ⟨by rw [may16]; rfl, S1.tail⟩
      · by_cases h1 : arg = 1
        · subst h1
          go_enter Tryz.func44, Tryz.ntmps44
          go_wp2_with fail
          go_ret
          exact ⟨by rw [may16]; rfl, S1.tail⟩
        · have z0 : (arg == 0) = false := by simpa using h0
          have z1 : (arg == 1) = false := by simpa using h1
          go_enter Tryz.func44, Tryz.ntmps44
          go_wp2_with fail
          go_ret
          exact ⟨by rw [may16]; simp; omega, S1.tail⟩
    · have hn0 : (0 : Int) ≤ (n : Int) := Int.natCast_nonneg _
      rcases (show arg < 0 ∨ (0 ≤ arg ∧ arg ≤ (n : Int)) ∨ (n : Int) < arg by omega) with h0 | ⟨h0, h1⟩ | h0
      all_goals
        go_enter Tryz.func44, Tryz.ntmps44
        go_wp2_with fail
        go_ret
        exact ⟨by rw [may18]; first | (simp; omega; done) | (rw [decide_eq_true (show _ ∧ _ from ⟨by omega, by omega⟩)]; simp; omega) | (show Ending.returned (Value.bool (decide (arg < 16))) = _; rw [decide_eq_false (by omega), decide_eq_false (by omega)]), S1.tail⟩
    · have hn0 : (0 : Int) ≤ (n : Int) := Int.natCast_nonneg _
      rcases (show arg < 0 ∨ (0 ≤ arg ∧ arg ≤ (n : Int)) ∨ (n : Int) < arg by omega) with h0 | ⟨h0, h1⟩ | h0
      all_goals
        go_enter Tryz.func44, Tryz.ntmps44
        go_wp2_with fail
        go_ret
        exact ⟨by rw [may19]; first | (simp; omega; done) | (rw [decide_eq_true (show _ ∧ _ from ⟨by omega, by omega⟩)]; simp; omega) | (show Ending.returned (Value.bool (decide (arg < 16))) = _; rw [decide_eq_false (by omega), decide_eq_false (by omega)]), S1.tail⟩
    · rcases (show arg < 0 ∨ (0 ≤ arg ∧ arg ≤ 2) ∨ 2 < arg by omega) with h0 | ⟨h0, h1⟩ | h0
      all_goals
        go_enter Tryz.func44, Tryz.ntmps44
        go_wp2_with fail
        go_ret
        exact ⟨by rw [may20]; first | (simp; omega; done) | (rw [decide_eq_true (show _ ∧ _ from ⟨by omega, by omega⟩)]; simp; omega) | (show Ending.returned (Value.bool (decide (arg < 16))) = _; rw [decide_eq_false (by omega), decide_eq_false (by omega)]), S1.tail⟩
  · have hnot : ¬ op = 1 ∧ ¬ op = 2 ∧ ¬ op = 3 ∧ ¬ op = 16 ∧ ¬ op = 18 ∧ ¬ op = 19 ∧ ¬ op = 20 := by omega
    clear hk
    have hP : mayP op arg n = decide (1 ≤ op ∧ op ≤ 22 ∧ arg = 0) := by
      unfold mayP
      rw [if_neg (by omega), if_neg (by omega), if_neg (by omega), if_neg (by omega), if_neg (by omega)]
    have HP := Lib.hid hP
    clear hP
    have z1 : (op == 1) = false := by rw [beq_eq_false_iff_ne]; omega
    have z2 : (op == 2) = false := by rw [beq_eq_false_iff_ne]; omega
    have z3 : (op == 3) = false := by rw [beq_eq_false_iff_ne]; omega
    have z16 : (op == 16) = false := by rw [beq_eq_false_iff_ne]; omega
    have z18 : (op == 18) = false := by rw [beq_eq_false_iff_ne]; omega
    have z19 : (op == 19) = false := by rw [beq_eq_false_iff_ne]; omega
    have z20 : (op == 20) = false := by rw [beq_eq_false_iff_ne]; omega
    clear hnot
    rcases (show op < 1 ∨ 22 < op ∨ (1 ≤ op ∧ op ≤ 22) by omega) with h0 | h0 | ⟨h0, h1⟩
    · go_enter Tryz.func44, Tryz.ntmps44
      go_wp2_with fail
      go_ret
      exact ⟨by rw [HP.out]; simp; omega, S1.tail⟩
    · go_enter Tryz.func44, Tryz.ntmps44
      go_wp2_with fail
      go_ret
      exact ⟨by rw [HP.out]; simp; omega, S1.tail⟩
    · by_cases h2 : arg = 0
      · subst h2
        go_enter Tryz.func44, Tryz.ntmps44
        go_wp2_with fail
        go_ret
        exact ⟨by rw [HP.out]; simp; omega, S1.tail⟩
      · have za : (arg == 0) = false := by simpa using h2
        go_enter Tryz.func44, Tryz.ntmps44
        go_wp2_with fail
        go_ret
        exact ⟨by rw [HP.out]; simp; omega, S1.tail⟩

def RCoded (W0 : World) (L : List Asn) (code : List (Int × Int)) (e : Ending) (w' : World) : Prop :=
  ∃ i : Int, e = .returned (.tuple #[.int .i64 i, .int .i64 (codeP code)]) ∧ Sat W0 w' L

set_option maxRecDepth 100000 in
set_option maxHeartbeats 3200000 in
theorem rcode_any {W0 w : World} {L : List Asn} (S : Sat W0 w L) {a : Option Addr} {n c : Nat} {code : List (Int × Int)} (hR : ∀ w', Sat W0 w' L → Rd w' a (insv code)) (hn : code.length = n) (hnm : n ≤ maxLen) :
    Calls Tryz.prog 24 #[.slice a n c] w (RCoded W0 L code) := by
  unfold maxLen at hnm
  by_cases hbig : 256 < n
  · have HC : Hid (codeP code = 5) := by show _ = _; unfold codeP; rw [if_pos (by omega)]
    clear hn
    go_enter Tryz.func24, Tryz.ntmps24
    go_wp2_with fail
    go_ret2
    exact ⟨0, by rw [HC.out]; rfl, S⟩
  · have HN := Lib.hid hn
    have HR := Lib.hid hR
    clear hn hR
    go_enter Tryz.func24, Tryz.ntmps24
    go_wp2_with fail
    go_loopw [4] (fun i wr => ∃ k : Nat, k ≤ n ∧ i = .int .i64 k ∧ Hid (firstBad n code = k + firstBad n (code.drop k)) ∧ Sat W0 wr L) (fun i _ => n - (intOf i).toNat)
    case atStart => exact ⟨0, by omega, rfl, by show _ = _; simp, S⟩
    case round =>
      clear S
      obtain ⟨k, hk, rfl, HF, S6⟩ := hrel
      by_cases hlt : k < n
      · obtain ⟨x, hx⟩ : ∃ x, code[k]? = some x := ⟨code[k]'(by rw [HN.out]; exact hlt), List.getElem?_eq_getElem _⟩
        obtain ⟨bb, off, rfl, c0, c1⟩ := insv_cells (HR.out _ S6) hx
        have hfd := firstBad_drop (n := n) hx
        have HFD := Lib.hid hfd
        obtain ⟨op, arg⟩ := x
        have k0 : (0 : Int) ≤ (k : Int) := Int.natCast_nonneg _
        have k1 : (k : Int) < (n : Int) := by omega
        clear hx hfd
        have hbad : mayP op arg n = false → codeP code = 3 := by
          intro hm
          have h0 := HF.out
          rw [HFD.out] at h0
          simp only [hm] at h0
          unfold codeP
          rw [if_neg (by rw [HN.out]; omega), HN.out, h0, if_pos (by simp; omega)]
        have hgood : mayP op arg n = true → firstBad n code = (k + 1 : Nat) + firstBad n (code.drop (k + 1)) := by
          intro hm
          have h0 := HF.out
          rw [HFD.out] at h0
          simp only [hm] at h0
          rw [h0]; simp; omega
        have HB := Lib.hid hbad
        have HG := Lib.hid hgood
        clear hbad hgood HFD
        cases hm : mayP op arg n
        · have HMM := Lib.hid hm
          clear hm
          go_wp2_with (go_at_call 44; refine (rmay_any S6 op arg n (by unfold maxLen; omega)).mono ?_; rintro e w2 ⟨rfl, S7⟩; rw [HMM.out])
          go_ret2
          exact ⟨k, by rw [HB.out HMM.out]; rfl, S7⟩
        · have HMM := Lib.hid hm
          clear hm
          go_wp2_with (go_at_call 44; refine (rmay_any S6 op arg n (by unfold maxLen; omega)).mono ?_; rintro e w2 ⟨rfl, S7⟩; rw [HMM.out])
          go_roundw
          case rel => exact ⟨k + 1, by omega, by go_num, HG.out HMM.out, S7⟩
          case measure => simp [intOf]; omega
      · have HE : Hid (codeP code = 0) := by
          show _ = _
          unfold codeP
          have hk' : k = n := by omega
          have h0 := HF.out
          rw [hk', List.drop_of_length_le (by rw [HN.out]; omega)] at h0
          rw [if_neg (by rw [HN.out]; omega), HN.out, h0, if_neg (by simp [firstBad])]
        go_wp2_with fail
        go_ret2
        exact ⟨0, by rw [HE.out]; rfl, S6⟩

set_option maxRecDepth 100000 in
set_option maxHeartbeats 1600000 in
theorem r10check_any {W0 w : World} {L : List Asn} (S : Sat W0 w L) {a : Option Addr} {n c : Nat} {code : List (Int × Int)} (hR : ∀ w', Sat W0 w' L → Rd w' a (insv code)) (hn : code.length = n) (hnm : n ≤ maxLen) (cap fuel : Int) :
    Calls Tryz.prog 8 #[.agg #[.slice a n c, .int .i64 cap, .int .i64 fuel]] w fun e w' => e = .returned (.int .i64 (checkP code cap fuel)) ∧ Sat W0 w' L := by
  have S1 := S.alloc [.slice a n c, .int .i64 cap, .int .i64 fuel] 24
  have hR1 : ∀ w', Sat W0 w' (blk w.heap.size [.slice a n c, .int .i64 cap, .int .i64 fuel] 24 :: L) → Rd w' a (insv code) := fun w' h => hR w' h.tail
  have HN := Lib.hid hn
  obtain ⟨e, he⟩ : ∃ e, codeP code = e := ⟨_, rfl⟩
  have hce := codeP_bd code
  rw [he] at hce
  have HE := Lib.hid he
  clear he hn
  rcases hce with rfl | hce
  · have hchk : checkP code cap fuel = if cap < 1 ∨ 600 < cap ∨ fuel < 1 ∨ 2000 < fuel then 1 else 0 := by
      unfold checkP; rw [if_neg (by rw [HE.out]; simp)]
    have HC := Lib.hid hchk
    clear hchk
    have hcase : cap < 1 ∨ (1 ≤ cap ∧ 600 < cap) ∨ (1 ≤ cap ∧ cap ≤ 600 ∧ fuel < 1) ∨ (1 ≤ cap ∧ cap ≤ 600 ∧ 1 ≤ fuel ∧ 2000 < fuel) ∨ (1 ≤ cap ∧ cap ≤ 600 ∧ 1 ≤ fuel ∧ fuel ≤ 2000) := by omega
    rcases hcase with h | ⟨h, h1⟩ | ⟨h, h1, h2⟩ | ⟨h, h1, h2, h3⟩ | ⟨h, h1, h2, h3⟩
    all_goals
      go_enter Tryz.func8, Tryz.ntmps8
      go_wp2_with (go_at_call 24; refine (rcode_any S1 hR1 HN.out hnm).mono ?_; unfold RCoded; rintro e w2 ⟨i, rfl, S2⟩; rw [HE.out]; have d1 := S2.cell 0 rfl 1; have d2 := S2.cell 0 rfl 2; simp only [List.getElem?_cons_zero, List.getElem?_cons_succ] at d1 d2)
      go_ret
      refine ⟨?_, S2.tail⟩
      rw [HC.out]
      first
        | (rw [if_pos (by omega)]; rfl)
        | (rw [if_neg (by omega)]; rfl)
  · have hne : (e != 0) = true := by rcases hce with rfl | rfl <;> rfl
    have hchk : checkP code cap fuel = e := by
      unfold checkP
      rw [if_pos (by rw [HE.out]; rcases hce with rfl | rfl <;> decide), HE.out]
    have HC := Lib.hid hchk
    clear hchk hce
    go_enter Tryz.func8, Tryz.ntmps8
    go_wp2_with (go_at_call 24; refine (rcode_any S1 hR1 HN.out hnm).mono ?_; unfold RCoded; rintro e' w2 ⟨i, rfl, S2⟩; rw [HE.out])
    go_ret
    exact ⟨by rw [HC.out]; rfl, S2.tail⟩

set_option maxRecDepth 100000 in
set_option maxHeartbeats 1600000 in
theorem r10is_any {W0 w : World} {L : List Asn} (S : Sat W0 w L) {s : VS} (h : s.cells.length = 16) :
    Calls Tryz.prog 70 #[.agg (svals s).toArray] w fun e w' => e = .returned (.bool (isP s)) ∧ Sat W0 w' L := by
  have S1 := S.alloc (svals s) 46
  have hA := st_at h S1
  have c0 := hA.frame
  have c18 := hA.over
  have c19 := hA.winner
  have HI : Hid (isP s = (decide (0 ≤ s.frame) && (decide (s.frame ≤ 600) && (decide (0 ≤ s.winner) && (decide (s.winner ≤ 2) && (s.over || decide (s.winner = 0))))))) := rfl
  generalize svals s = cs at S1 c0 c18 c19 ⊢
  generalize s.frame = f at c0 HI
  generalize s.winner = wi at c19 HI
  generalize s.over = ov at c18 HI
  clear hA
  have hcase : f < 0 ∨ (0 ≤ f ∧ 600 < f) ∨ (0 ≤ f ∧ f ≤ 600 ∧ wi < 0) ∨ (0 ≤ f ∧ f ≤ 600 ∧ 0 ≤ wi ∧ 2 < wi) ∨ (0 ≤ f ∧ f ≤ 600 ∧ 0 ≤ wi ∧ wi ≤ 2 ∧ ov = true) ∨ (0 ≤ f ∧ f ≤ 600 ∧ wi = 0 ∧ ov = false) ∨ (0 ≤ f ∧ f ≤ 600 ∧ 1 ≤ wi ∧ wi ≤ 2 ∧ ov = false) := by
    cases ov <;> simp <;> omega
  rcases hcase with h0 | ⟨h0, h1⟩ | ⟨h0, h1, h2⟩ | ⟨h0, h1, h2, h3⟩ | ⟨h0, h1, h2, h3, rfl⟩ | ⟨h0, h1, rfl, rfl⟩ | ⟨h0, h1, h2, h3, rfl⟩
  case inr.inr.inr.inr.inr.inr =>
    have hz : (wi == 0) = false := by rw [beq_eq_false_iff_ne]; omega
    go_enter Tryz.func70, Tryz.ntmps70
    go_wp2_with fail
    go_ret
    refine ⟨?_, S1.tail⟩
    rw [HI.out]
    simp; omega
  all_goals
    go_enter Tryz.func70, Tryz.ntmps70
    go_wp2_with fail
    go_ret
    refine ⟨?_, S1.tail⟩
    rw [HI.out]
    simp
    try omega
set_option maxRecDepth 100000 in
set_option maxHeartbeats 1600000 in
theorem r10start_any {W0 w : World} {L : List Asn} (S : Sat W0 w L) (x : Int) (hx : 0 ≤ x ∧ x < 4294967296) :
    Calls Tryz.prog 53 #[.int .u32 x] w (StartsAt W0 L x) := by
  have S1 : Sat W0 (w.alloc (.cells #[.int .i64 0, .int .i32 0, .int .i32 0, .int .i32 0, .int .i32 0, .int .i32 0, .int .i32 0, .int .i32 0, .int .i32 0, .int .i32 0, .int .i32 0, .int .i32 0, .int .i32 0, .int .i32 0, .int .i32 0, .int .i32 0, .int .i32 0, .int .u32 0, .bool false, .int .i64 0] 46)) (blk w.heap.size [.int .i64 0, .int .i32 0, .int .i32 0, .int .i32 0, .int .i32 0, .int .i32 0, .int .i32 0, .int .i32 0, .int .i32 0, .int .i32 0, .int .i32 0, .int .i32 0, .int .i32 0, .int .i32 0, .int .i32 0, .int .i32 0, .int .i32 0, .int .u32 0, .bool false, .int .i64 0] 46 :: L) := S.alloc [.int .i64 0, .int .i32 0, .int .i32 0, .int .i32 0, .int .i32 0, .int .i32 0, .int .i32 0, .int .i32 0, .int .i32 0, .int .i32 0, .int .i32 0, .int .i32 0, .int .i32 0, .int .i32 0, .int .i32 0, .int .i32 0, .int .i32 0, .int .u32 0, .bool false, .int .i64 0] _
  obtain ⟨y, hy⟩ : ∃ y, max 1 x = y := ⟨_, rfl⟩
  have hsv := start_vals x hy
  have HS := Lib.hid hsv
  have h1 := svals_one (VS.start x)
  rw [hsv] at h1
  have hcase : (x = 0 ∧ y = 1) ∨ (x = 1 ∧ y = 1) ∨ (2 ≤ x ∧ x = y) := by omega
  clear hsv hy
  rcases hcase with ⟨rfl, rfl⟩ | ⟨rfl, rfl⟩ | ⟨hx1, rfl⟩
  all_goals
    go_enter Tryz.func53, Tryz.ntmps53
    go_wp2_with (refine wpList_store_sat (n := 20) rfl 46 _ _ rfl S1 rfl rfl rfl (by decide) Tryz.sizeS h1 ?_; intro w2 S2)
    refine bodyPost_ret (results_cell_sat rfl _ S2 rfl Tryz.underlying46 rfl Tryz.sizeS) rfl ⟨?_, S2.tail⟩
    rw [HS.out]; rfl
end Go.Proofs.YtjdeeloemhjbhaaGreat
