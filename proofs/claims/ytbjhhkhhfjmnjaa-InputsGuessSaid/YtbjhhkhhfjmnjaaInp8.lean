/-
  The law InputsGuess, walked.
-/
import Derived.Test.YtbjhhkhhfjmnjaaInp6
import Derived.Test.YtbjhhkhhfjmnjaaInpG
import Derived.Test.YtbjhhkhhfjmnjaaLaw0
namespace Go.Proofs.Ytbjhhkhhfjmnjaa
open Go.RowKit Go.Sep Go.Inp

theorem put1_known {q : PQ} {f : Nat} (hn : f < q.n) (hk : isKn q.r1 f = true) (x : Int) : q.put 1 f x = (hasErr (inAt q.r1 f) x, q) := by
  unfold PQ.put putR
  rw [if_neg (by decide), if_pos rfl, if_neg (by omega), Int.toNat_natCast, if_pos hk]
theorem put1_new {q : PQ} {f : Nat} (hn : f < q.n) (hk : isKn q.r1 f = false) (x : Int) : q.put 1 f x = (0, { q with r1 := setR q.r1 f x }) := by
  unfold PQ.put putR
  rw [if_neg (by decide), if_pos rfl, if_neg (by omega), Int.toNat_natCast, if_neg (by rw [hk]; simp)]
  rfl
theorem hasErr_pos (a x : Int) : hasErr a x = 8 ∨ hasErr a x = 18 := by unfold hasErr; split <;> simp

def GRel (W0 : World) (L : List Asn) (p m : Nat) (ask : Nat) (best v is i : Value) (wr : World) : Prop :=
  ∃ (k : Nat) (q : PQ), k ≤ m ∧ i = .int .i64 k ∧ q.ok ∧ q.n = 60 ∧ q.r0 = (PQ.new 60).r0 ∧ best = .int .i64 (G3 q.r1 ask).1 ∧ v = .int .u16 (G3 q.r1 ask).2.1 ∧ is = .bool (G3 q.r1 ask).2.2 ∧ Sat W0 wr (Qu p q :: L)

set_option maxRecDepth 100000 in
theorem InputsGuess_bad {w : World} {a b : Option Addr} {m n c d : Nat} {ask : Int} (h : 40 < m ∨ n < m ∨ ask < 0 ∨ 100 < ask) :
    Calls Try.prog 3 #[.slice a m c, .slice b n d, .int .i64 ask] w fun e w' => e = .returned (.bool true) ∧ Below w.heap.size w w' := by
  have S0 := Sat.start w
  by_cases h1 : 40 < m
  · go_enter Try.func3, Try.ntmps3
    go_wp2_with (go_at_call 7; refine (known12_any S0).mono ?_; rintro e w1 ⟨rfl, S1⟩)
    go_ret
    exact ⟨rfl, S1.below⟩
  by_cases h2 : n < m
  · go_enter Try.func3, Try.ntmps3
    go_wp2_with (go_at_call 7; refine (known12_any S0).mono ?_; rintro e w1 ⟨rfl, S1⟩)
    go_ret
    exact ⟨rfl, S1.below⟩
  by_cases h3 : ask < 0
  · go_enter Try.func3, Try.ntmps3
    go_wp2_with (go_at_call 7; refine (known12_any S0).mono ?_; rintro e w1 ⟨rfl, S1⟩)
    go_ret
    exact ⟨rfl, S1.below⟩
  have h4 : 100 < ask := by omega
  go_enter Try.func3, Try.ntmps3
  go_wp2_with (go_at_call 7; refine (known12_any S0).mono ?_; rintro e w1 ⟨rfl, S1⟩)
  go_ret
  exact ⟨rfl, S1.below⟩

set_option maxRecDepth 100000 in
set_option maxHeartbeats 1600000 in
theorem InputsGuess_walk {w : World} {a b : Option Addr} {m n c d : Nat} {at_ xs : List Int} {ask : Int}
    (hR : Rd w a (at_.map (Value.int .i64))) (hm : at_.length = m) (hX : Rd w b (xs.map (Value.int .u16))) (hx : xs.length = n) :
    Calls Try.prog 3 #[.slice a m c, .slice b n d, .int .i64 ask] w fun e w' => e = .returned (.bool true) ∧ Below w.heap.size w w' := by
  by_cases hbad : 40 < m ∨ n < m ∨ ask < 0 ∨ 100 < ask
  · exact InputsGuess_bad hbad
  obtain ⟨ask, rfl⟩ := Int.eq_ofNat_of_zero_le (show 0 ≤ ask by omega)
  have b1 : m ≤ 40 := by omega
  have b2 : m ≤ n := by omega
  have b3 : ask ≤ 100 := by omega
  clear hbad
  have S0 := Sat.start w
  have hG0 : G3 (PQ.new 60).r1 ask = (-1, 0, false) := G3_none 60 ask
  go_enter Try.func3, Try.ntmps3
  go_wp2_with (go_at_call 8; refine (new_any S0 60 (by omega) (by omega)).mono ?_; rintro e w1 ⟨p, rfl, S1⟩)
  go_loopw [9, 10, 11, 12] (fun best v is i wr => GRel w [] p m ask best v is i wr) (fun _ _ _ i _ => m - (intOf i).toNat)
  case atStart => exact ⟨0, PQ.new 60, by omega, rfl, PQ.new_ok (by omega), rfl, rfl, by rw [hG0], by rw [hG0], by rw [hG0], S1⟩
  case round =>
    obtain ⟨k, q, hk, rfl, hq, hqn, hq0, rfl, rfl, rfl, S2⟩ := hrel
    by_cases hlt : k < m
    · have hA := hR.below S2.below
      have hB := hX.below S2.below
      obtain ⟨y, hy⟩ := at_some (show k < at_.length by omega)
      obtain ⟨x, hxx⟩ := at_some (show k < xs.length by omega)
      obtain ⟨ba, oa, rfl, ca⟩ := hA k _ (by rw [List.getElem?_map, hy]; rfl)
      obtain ⟨bb, ob, rfl, cb⟩ := hB k _ (by rw [List.getElem?_map, hxx]; rfl)
      have e1 : bits .and .i64 y 1023 = y % 1024 := i64_mask y 1023 10 (by decide +kernel) (by decide)
      obtain ⟨f, hf⟩ : ∃ f : Nat, (y % 1024).tmod 60 = (f : Int) := ⟨((y % 1024).tmod 60).toNat, by rw [Int.tmod_eq_emod_of_nonneg (by omega)]; omega⟩
      have hf60 : f < 60 := by rw [Int.tmod_eq_emod_of_nonneg (by omega)] at hf; omega
      cases hkn : isKn q.r1 f with
      | true =>
        have he := put1_known (by omega) hkn x
        rcases hasErr_pos (inAt q.r1 f) x with h8 | h8
        all_goals
          rw [h8] at he
          have HP := Lib.hid he
          clear hf60 h8 he
          go_wp2_with (go_at_call 9; refine (put_any S2 hq 1 f x).mono ?_; rintro e w3 ⟨rfl, S3⟩; rw [HP.out] at S3 ⊢)
          go_roundw
          case rel => exact ⟨k + 1, q, by omega, rfl, hq, hqn, hq0, rfl, rfl, rfl, S3⟩
          case measure => simp [intOf]; omega
      | false =>
        have HP : Hid (q.put 1 f x = (0, { q with r1 := setR q.r1 f x })) := put1_new (by omega) hkn x
        have hq' : PQ.ok { q with r1 := setR q.r1 f x } := ⟨hq.1, hq.2.1, by simp [setR, hq.2.2.1], by simp [setR, hq.2.2.2]⟩
        have hget : Hid (PQ.get { q with r1 := setR q.r1 f x } 1 ask = ((G3 (setR q.r1 f x) ask).2.1, (G3 (setR q.r1 f x) ask).2.2)) := by
          show _ = _
          unfold PQ.get
          rw [if_neg (by decide), if_pos rfl]
          exact getR_eq hq'.2.2 ask
        have hG := Lib.hid (G3_set (x := x) (a := ask) hq.2.2 (by omega) hkn)
        generalize hg : G3 q.r1 ask = g at hG
        obtain ⟨tb, tv, ti⟩ := g
        have HG := Lib.hid hg
        clear hg
        try simp only [HG.out]
        obtain ⟨t, ht⟩ : ∃ t, decide (f = ask) = t := ⟨_, rfl⟩
        have eb : ((f : Int) == (ask : Int)) = t := by
          rw [← ht]
          by_cases e : f = ask
          · subst e; simp
          · rw [decide_eq_false e, beq_eq_false_iff_ne]; omega
        rw [ht] at hG
        clear ht
        have ht := eb
        clear eb
        cases ti <;> cases t
        all_goals
          simp only [Bool.or_false, Bool.or_true, Bool.true_or] at hG
          by_cases c1 : (f : Int) ≤ (ask : Int)
          · by_cases c2 : tb < (f : Int)
            · have hE := Lib.hid (hG.out.trans (if_pos ⟨by omega, c2⟩))
              clear hG
              rw [hE.out] at hget
              go_wp2_with (first
                | (go_at_call 9; refine (put_any S2 hq 1 f x).mono ?_; rintro e w3 ⟨rfl, S3⟩; rw [HP.out] at S3 ⊢)
                | (go_at_call 10; refine (get_any S3 hq' 1 ask).mono ?_; rintro e w4 ⟨rfl, rfl⟩; rw [hget.out]))
              have cb3 := (hX.below S3.below).at (j := k) (u := .int .u16 x) (by rw [List.getElem?_map, hxx]; rfl)
              have k0 : (0 : Int) ≤ (k : Int) := Int.natCast_nonneg _
              have k1 : (k : Int) < (n : Int) := by omega
              go_quiet (fail)
              go_wp2_with (go_at_call 10; refine (get_any (S3.drewN _) hq' 1 ask).mono ?_; rintro e w4 ⟨rfl, rfl⟩; rw [hget.out])
              go_roundw
              case rel => exact ⟨k + 1, _, by omega, rfl, hq', hqn, hq0, by rw [hE.out], by rw [hE.out], by rw [hE.out], S3.drewN _⟩
              case measure => simp [intOf]; omega
            · have hE := Lib.hid (hG.out.trans (if_neg (fun h => c2 h.2)))
              clear hG
              rw [hE.out] at hget
              go_wp2_with (first
                | (go_at_call 9; refine (put_any S2 hq 1 f x).mono ?_; rintro e w3 ⟨rfl, S3⟩; rw [HP.out] at S3 ⊢)
                | (go_at_call 10; refine (get_any S3 hq' 1 ask).mono ?_; rintro e w4 ⟨rfl, rfl⟩; rw [hget.out]))
              go_roundw
              case rel => exact ⟨k + 1, _, by omega, rfl, hq', hqn, hq0, by rw [hE.out], by rw [hE.out], by rw [hE.out], S3⟩
              case measure => simp [intOf]; omega
          · have hE := Lib.hid (hG.out.trans (if_neg (fun h => c1 (by omega))))
            clear hG
            rw [hE.out] at hget
            go_wp2_with (first
              | (go_at_call 9; refine (put_any S2 hq 1 f x).mono ?_; rintro e w3 ⟨rfl, S3⟩; rw [HP.out] at S3 ⊢)
              | (go_at_call 10; refine (get_any S3 hq' 1 ask).mono ?_; rintro e w4 ⟨rfl, rfl⟩; rw [hget.out]))
            go_roundw
            case rel => exact ⟨k + 1, _, by omega, rfl, hq', hqn, hq0, by rw [hE.out], by rw [hE.out], by rw [hE.out], S3⟩
            case measure => simp [intOf]; omega
    · have g0 : Hid (q.get 0 ask = (0, false)) := get0_none hq hq0 ask
      go_wp2_with (first
        | (go_at_call 10; refine (get_any S2 hq 0 ask).mono ?_; rintro e w3 ⟨rfl, rfl⟩; rw [g0.out])
        | (go_at_call 7; refine (known12_any S2).mono ?_; rintro e w4 ⟨rfl, S4⟩))
      go_ret
      exact ⟨rfl, S4.below⟩
end Go.Proofs.Ytbjhhkhhfjmnjaa
