/-
  The law InputsPlay, walked.
-/
import Derived.Test.YtbjhhkhhfjmnjaaInp6
import Derived.Test.YtbjhhkhhfjmnjaaInpR3
import Derived.Test.YtbjhhkhhfjmnjaaInpR4
import Derived.Test.YtbjhhkhhfjmnjaaInpT
namespace Go.Proofs.Ytbjhhkhhfjmnjaa
open Go.RowKit Go.Sep Go.Inp

set_option maxRecDepth 100000 in
theorem InputsPlay_bad {w : World} {a b : Option Addr} {m n c d : Nat} {fr : Int} (h : 20 < n ∨ fr < 1 ∨ 600 < fr) :
    Calls Try.prog 4 #[.int .i64 fr, .slice a m c, .slice b n d] w fun e w' => e = .returned (.bool true) ∧ Below w.heap.size w w' := by
  have S0 := Sat.start w
  by_cases h1 : 20 < n
  · go_enter Try.func4, Try.ntmps4
    go_wp2_with (go_at_call 7; refine (known12_any S0).mono ?_; rintro e w1 ⟨rfl, S1⟩)
    go_ret
    exact ⟨rfl, S1.below⟩
  have h2 : fr < 1 ∨ 600 < fr := by omega
  have b1 : n ≤ 20 := by omega
  clear h
  go_enter Try.func4, Try.ntmps4
  go_wp2_with (first
    | (go_at_call 8; refine (new_bad _ h2).mono ?_; rintro e w1 ⟨rfl, rfl⟩)
    | (go_at_call 11; refine (rnew_bad _ h2).mono ?_; rintro e w1 ⟨rfl, rfl⟩)
    | (go_at_call 7; refine (known12_any S0).mono ?_; rintro e w1 ⟨rfl, S1⟩))
  go_ret
  exact ⟨rfl, S1.below⟩

theorem three_cells {W0 w : World} {L : List Asn} {p : Nat} {x : Int × Int × Int} (S : Sat W0 w (blk p [.int .i64 x.1, .int .i64 x.2.1, .int .u16 x.2.2] 39 :: L)) :
    w.cell? ⟨p, 0, none⟩ = some (.int .i64 x.1) ∧ w.cell? ⟨p, 1, none⟩ = some (.int .i64 x.2.1) ∧ w.cell? ⟨p, 2, none⟩ = some (.int .u16 x.2.2) :=
  ⟨S.cell 0 rfl 0, S.cell 0 rfl 1, S.cell 0 rfl 2⟩

set_option maxRecDepth 100000 in
set_option maxHeartbeats 1600000 in
theorem InputsPlay_walk {w : World} {a b : Option Addr} {m n c d : Nat} {fr : Int} {tl qs : List (Int × Int × Int)} (hT : Rd w a (tv tl)) (hm : tl.length = m) (hA : Rd w b (tv qs)) (hn : qs.length = n) :
    Calls Try.prog 4 #[.int .i64 fr, .slice a m c, .slice b n d] w fun e w' => e = .returned (.bool true) ∧ Below w.heap.size w w' := by
  by_cases hbad : 20 < n ∨ fr < 1 ∨ 600 < fr
  · exact InputsPlay_bad hbad
  obtain ⟨fr, rfl⟩ := Int.eq_ofNat_of_zero_le (show 0 ≤ fr by omega)
  have b1 : n ≤ 20 := by omega
  have b2 : 1 ≤ fr := by omega
  have b3 : fr ≤ 600 := by omega
  clear hbad
  have S0 := Sat.start w
  go_enter Try.func4, Try.ntmps4
  go_wp2_with (first
    | (go_at_call 8; refine (new_any S0 fr b2 b3).mono ?_; rintro e w1 ⟨p, rfl, S1⟩)
    | (go_at_call 11; refine (rnew_any S1 fr b2 b3).mono ?_; rintro e w2 ⟨r, rfl, S2⟩))
  go_loopw [11] (fun i wr => ∃ (k : Nat) (q : PQ), k ≤ m ∧ i = .int .i64 k ∧ q.ok ∧ Sat w wr (RQu r q :: Qu p q :: [])) (fun i _ => m - (intOf i).toNat)
  case atStart => exact ⟨0, PQ.new fr, by omega, rfl, PQ.new_ok b3, S2⟩
  case round =>
    obtain ⟨k, q, hk, rfl, hq, S3⟩ := hrel
    by_cases hlt : k < m ∧ k < 300
    · obtain ⟨x, hx⟩ := (⟨tl[k], List.getElem?_eq_getElem (by omega)⟩ : ∃ x, tl[k]? = some x)
      obtain ⟨ba, oa, rfl, c1, c2, c3⟩ := told_cells (hT.below S3.below) hx
      have l1 := hlt.1
      have l2 : (k : Int) < 300 := by omega
      clear hlt
      go_wp2_with fail
      have S4 : Sat w (wr.alloc (.cells #[.int .i64 x.1, .int .i64 x.2.1, .int .u16 x.2.2] 39)) (blk wr.heap.size [.int .i64 x.1, .int .i64 x.2.1, .int .u16 x.2.2] 39 :: RQu r q :: Qu p q :: []) := S3.alloc [.int .i64 x.1, .int .i64 x.2.1, .int .u16 x.2.2] _
      generalize wr.alloc (.cells #[.int .i64 x.1, .int .i64 x.2.1, .int .u16 x.2.2] 39) = w4 at S4 ⊢
      generalize wr.heap.size = y at S4 ⊢
      clear S3 c1 c2 c3
      obtain ⟨c1, c2, c3⟩ := three_cells S4
      obtain ⟨er, q', hP⟩ : ∃ er q', q.put x.1 x.2.1 x.2.2 = (er, q') := ⟨_, _, rfl⟩
      have HP := Lib.hid hP
      have hq' : q'.ok := by have := PQ.put_ok hq x.1 x.2.1 x.2.2; rw [hP] at this; exact this
      clear hP
      go_region_held3 (fun w' => w'.cell? ⟨y, 0, none⟩ = some (.int .i64 x.1) ∧ w'.cell? ⟨y, 1, none⟩ = some (.int .i64 x.2.1) ∧ w'.cell? ⟨y, 2, none⟩ = some (.int .u16 x.2.2))
        (first
          | go_keep
          | exact three_cells S5
          | exact three_cells S6
          | exact three_cells S7
          | exact three_cells S8)
        (first
          | (go_at_call 9; first
              | (refine (put_any (S7.sel [2]) hq x.1 x.2.1 x.2.2).mono ?_; unfold Putted; rintro e w8 ⟨rfl, S8'⟩; rw [HP.out] at S8' ⊢; have S8 := S8'.sel [1]; clear S8')
              | (refine (put_any (S4.drew.sel [2]) hq x.1 x.2.1 x.2.2).mono ?_; unfold Putted; rintro e w5 ⟨rfl, S5'⟩; rw [HP.out] at S5' ⊢; have S5 := S5'.sel [1]; clear S5'))
          | (go_at_call 12; first
              | (refine (rput_any (S5.sel [2]) hq x.1 x.2.1 x.2.2).mono ?_; unfold RPutted; rintro e w6 ⟨rfl, S6'⟩; rw [HP.out] at S6' ⊢; have S6 := S6'.sel [1]; clear S6')
              | (refine (rput_any (S4.drew.sel [1]) hq x.1 x.2.1 x.2.2).mono ?_; unfold RPutted; rintro e w7 ⟨rfl, S7'⟩; rw [HP.out] at S7' ⊢; have S7 := S7'.sel [1]; clear S7')))
      have S9 : Sat w w6 (RQu r q' :: Qu p q' :: []) := S6.tail
      clear S4 S5 S6 c1 c2 c3
      go_wp2_with fail
      go_loopw [13] (fun i wr2 => ∃ k2 : Nat, k2 ≤ n ∧ i = .int .i64 k2 ∧ Sat w wr2 (RQu r q' :: Qu p q' :: [])) (fun i _ => n - (intOf i).toNat)
      case atStart => exact ⟨0, by omega, rfl, S9⟩
      case round =>
        obtain ⟨k2, hk2, rfl, S10⟩ := hrel
        by_cases hlt2 : k2 < n
        · obtain ⟨z, hz⟩ := (⟨qs[k2], List.getElem?_eq_getElem (by omega)⟩ : ∃ z, qs[k2]? = some z)
          obtain ⟨bb, ob, rfl, d1, d2, d3⟩ := told_cells (hA.below S10.below) hz
          have hcell := fun w' (h : Sat w w' (RQu r q' :: Qu p q' :: [])) => told_here (hA.below h.below) hz
          obtain ⟨ga, gb, hG⟩ : ∃ ga gb, q'.get z.1 z.2.1 = (ga, gb) := ⟨_, _, rfl⟩
          obtain ⟨kk, hK⟩ : ∃ kk : Nat, q'.known z.1 = kk := ⟨_, rfl⟩
          have G1 := fun w' (S : Sat w w' (RQu r q' :: Qu p q' :: [])) => get_any S.swap hq' z.1 z.2.1
          have G2 := fun w' (S : Sat w w' (RQu r q' :: Qu p q' :: [])) => rget_any S hq' z.1 z.2.1
          have G3 := fun w' (S : Sat w w' (RQu r q' :: Qu p q' :: [])) => known_any S.swap z.1
          have G4 := fun w' (S : Sat w w' (RQu r q' :: Qu p q' :: [])) => rknown_any S hq' z.1
          rw [hG] at G1 G2
          rw [hK] at G3 G4
          clear hG hK
          have k0 : (0 : Int) ≤ (k2 : Int) := Int.natCast_nonneg _
          have k1 : (k2 : Int) < (n : Int) := by omega
          go_wp2_with fail
          go_quiet ((go_at_call 10; exact Calls.quiet_of_same ((G1 _ (S10.drewN _)).mono fun _ _ ⟨a, b⟩ => ⟨a, b.symm⟩)))
          have S20 := S10.drewN nq
          generalize wr.drewN nq = wq at S20 ⊢
          clear S10 d1 d2 d3
          have S10 := S20
          clear S20
          obtain ⟨d1, d2, d3⟩ := hcell _ S10
          go_wp2_with fail
          go_quiet ((go_at_call 13; exact Calls.quiet_of_same ((G2 _ (S10.drewN _)).mono fun _ _ ⟨a, b⟩ => ⟨a, b.symm⟩)))
          have S20 := S10.drewN nq
          generalize wq.drewN nq = wq2 at S20 ⊢
          clear S10 d1 d2 d3
          have S10 := S20
          clear S20
          obtain ⟨d1, d2, d3⟩ := hcell _ S10
          go_wp2_with fail
          go_quiet (first
            | (go_at_call 14; exact Calls.quiet_of_same ((G3 _ (S10.drewN _)).mono fun _ _ ⟨a, b⟩ => ⟨a, b.symm⟩))
            | (go_at_call 15; exact Calls.quiet_of_same ((G4 _ (S10.drewN _)).mono fun _ _ ⟨a, b⟩ => ⟨a, b.symm⟩)))
          go_wp2
          go_roundw
          case rel => exact ⟨k2 + 1, by omega, rfl, S10.drewN _⟩
          case measure => simp [intOf]; omega
        · have S11 := S10.swap
          go_wp2_with (first
            | (go_at_call 16; refine (both_any S11).mono ?_; rintro e w11 ⟨rfl, rfl⟩)
            | (go_at_call 17; refine (rboth_any S10 hq').mono ?_; rintro e w12 ⟨rfl, rfl⟩))
          go_roundw
          case rel => exact ⟨k + 1, q', by omega, rfl, hq', S10⟩
          case measure => simp [intOf]; omega
    · have hle : q.both ≤ 600 := by
        have h0 := lead_le q.r0.kn
        rw [hq.2.1.2] at h0
        have := hq.1
        unfold PQ.both
        omega
      have hpl : q.pairs.length ≤ 600 := by unfold PQ.pairs; rw [List.length_map, List.length_range]; exact hle
      have S11 := S3.swap
      by_cases l1 : k < m
      · have l2 : ¬ (k : Int) < 300 := by omega
        clear hlt
        go_wp2_with (first
          | (go_at_call 19; refine (pairs_any S11 hq).mono ?_; unfold GivesP; rintro e w11 ⟨ao1, cap1, rfl, S12⟩)
          | (go_at_call 20; refine (rpairs_any (S12.sel [2]) hq).mono ?_; unfold GivesP; rintro e w12 ⟨ao2, cap2, rfl, S13⟩)
          | (go_at_call 18; refine (pairs_same (S13.sel [2]).own_rd S13.own_rd hpl).mono ?_; rintro e w13 ⟨rfl, hq13⟩; have S14 := S13.quiet hq13; clear hq13)
          | (go_at_call 7; refine (known12_any S14).mono ?_; rintro e w14 ⟨rfl, S15⟩))
        go_ret
        exact ⟨rfl, S15.below⟩
      · clear hlt
        go_wp2_with (first
          | (go_at_call 19; refine (pairs_any S11 hq).mono ?_; unfold GivesP; rintro e w11 ⟨ao1, cap1, rfl, S12⟩)
          | (go_at_call 20; refine (rpairs_any (S12.sel [2]) hq).mono ?_; unfold GivesP; rintro e w12 ⟨ao2, cap2, rfl, S13⟩)
          | (go_at_call 18; refine (pairs_same (S13.sel [2]).own_rd S13.own_rd hpl).mono ?_; rintro e w13 ⟨rfl, hq13⟩; have S14 := S13.quiet hq13; clear hq13)
          | (go_at_call 7; refine (known12_any S14).mono ?_; rintro e w14 ⟨rfl, S15⟩))
        go_ret
        exact ⟨rfl, S15.below⟩
end Go.Proofs.Ytbjhhkhhfjmnjaa
