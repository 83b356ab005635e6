/-
  vm: a state out of bytes: the walk.
-/
import Derived.StillTailTactics
import Derived.Deep.DeepCutAuto
import Derived.Deep.CutBlock
import Derived.Test.YtjdeeloemhjbhaaGreatQVmX
import Derived.Test.YtjdeeloemhjbhaaGreatQVOct4
import Derived.Test.YtjdeeloemhjbhaaGreatQVmG

namespace Go.Proofs.YtjdeeloemhjbhaaGreat
open Go.RowKit Go.Sep Go.Oct Go.Vm
set_option linter.unusedSimpArgs false

theorem dec_seed {W0 w : World} {L : List Asn} {q : Nat} {s : VS} (h : s.cells.length = 16) (S : Sat W0 w (blk q (svals s) 46 :: L)) (v : Int) : Sat W0 (w.setCell ⟨q, 17, none⟩ (.int .u32 v)) (blk q (svals { s with seed := v }) 46 :: L) := by
  rw [← svals_setSeed h]; exact S.setCell 0 rfl
theorem dec_two {W0 w : World} {L : List Asn} {q : Nat} {s : VS} (h : s.cells.length = 16) (S : Sat W0 w (blk q (svals s) 46 :: L)) (o : Bool) (v : Int) :
    Sat W0 ((w.setCell ⟨q, 18, none⟩ (.bool o)).setCell ⟨q, 19, none⟩ (.int .i64 v)) (blk q (svals { s with over := o, winner := v }) 46 :: L) := by
  have x := (S.setCell 0 (k := 18) (v := .bool o) rfl).setCell 0 (k := 19) (v := .int .i64 v) rfl
  have y : ((svals s).set 18 (.bool o)).set 19 (.int .i64 v) = svals { s with over := o, winner := v } := by
    rw [svals_setOver h, svals_setWinner (by exact h)]
  rw [← y]
  exact x

set_option maxRecDepth 100000 in
set_option maxHeartbeats 3200000 in
theorem vDecode_any {W0 w : World} {L : List Asn} (S : Sat W0 w L) {a : Option Addr} {m c : Nat} {bs : List Int} (hR : Rd w a (bv bs)) (hm : bs.length = m) (h0 : a = none → c = 0) (hB : Bytes bs) (hb : m ≤ 1099511627776) :
    Calls Tryz.prog 46 #[.slice a m c] w (Stepped W0 L (decP bs)) := by
  obtain ⟨fr, b1, e1, ha⟩ : ∃ fr b1 e1, rdNum bs 0 = (fr, b1, e1) := ⟨_, _, _, rfl⟩
  have hB1 : Bytes b1 := by have := rdNum_bytes (e := 0) hB; rw [ha] at this; exact this
  have HA := Lib.hid ha
  have HM := Lib.hid hm
  have S1 := S.alloc [.int .i64 0, .int .i32 0, .int .i32 0, .int .i32 0, .int .i32 0, .int .i32 0, .int .i32 0, .int .i32 0, .int .i32 0, .int .i32 0, .int .i32 0, .int .i32 0, .int .i32 0, .int .i32 0, .int .i32 0, .int .i32 0, .int .i32 0, .int .u32 0, .bool false, .int .i64 0] 46
  have hR1 : Rd (w.alloc (.cells #[.int .i64 0, .int .i32 0, .int .i32 0, .int .i32 0, .int .i32 0, .int .i32 0, .int .i32 0, .int .i32 0, .int .i32 0, .int .i32 0, .int .i32 0, .int .i32 0, .int .i32 0, .int .i32 0, .int .i32 0, .int .i32 0, .int .i32 0, .int .u32 0, .bool false, .int .i64 0] 46)) a (bv bs) := hR.grow fun k hk => Below.heap_alloc w _ k hk
  clear ha hm
  go_enter Tryz.func46, Tryz.ntmps46
  go_upto_block 0 with (first
    | (refine wpList_store_sat (off := 0) (n := 20) rfl 46 _ _ rfl S4 rfl rfl rfl (by decide) Tryz.sizeS (svals_one ⟨fr, List.replicate 16 0, 0, false, 0⟩) ?_; intro w5 S5; rw [zstore] at S5)
    | (go_at_call 59; refine (rNum_any S2 hB).mono ?_; unfold Nummed; rintro e w3 ⟨rfl, S3⟩; rw [HA.out] at S3 ⊢; have S4 := S3.alloc [.int .i64 0, .int .i32 0, .int .i32 0, .int .i32 0, .int .i32 0, .int .i32 0, .int .i32 0, .int .i32 0, .int .i32 0, .int .i32 0, .int .i32 0, .int .i32 0, .int .i32 0, .int .i32 0, .int .i32 0, .int .i32 0, .int .i32 0, .int .u32 0, .bool false, .int .i64 0] 46)
    | (go_at_call 58; refine (newReader_any S1 hR1 HM.out h0 hb).mono ?_; rintro e w2 ⟨p, rfl, S2⟩))
  have S6 : Sat W0 w5 (blk w3.heap.size (svals ⟨fr, cellsAt 0 b1 e1, 0, false, 0⟩) 46 :: Rr p (rd4 0 b1 e1).2.1 (rd4 0 b1 e1).2.2 :: blk w.heap.size [.int .i64 0, .int .i32 0, .int .i32 0, .int .i32 0, .int .i32 0, .int .i32 0, .int .i32 0, .int .i32 0, .int .i32 0, .int .i32 0, .int .i32 0, .int .i32 0, .int .i32 0, .int .i32 0, .int .i32 0, .int .i32 0, .int .i32 0, .int .u32 0, .bool false, .int .i64 0] 46 :: L) := S5
  generalize w3.heap.size = q at S6 ⊢
  generalize w.heap.size = pr at S6 ⊢
  clear S1 S2 S3 S4 S5 hR1
  go_cut [] (fun wx => Sat W0 wx (blk q (svals ⟨fr, cellsAt 16 b1 e1, 0, false, 0⟩) 46 :: Rr p (rd4 16 b1 e1).2.1 (rd4 16 b1 e1).2.2 :: blk pr [.int .i64 0, .int .i32 0, .int .i32 0, .int .i32 0, .int .i32 0, .int .i32 0, .int .i32 0, .int .i32 0, .int .i32 0, .int .i32 0, .int .i32 0, .int .i32 0, .int .i32 0, .int .i32 0, .int .i32 0, .int .i32 0, .int .i32 0, .int .u32 0, .bool false, .int .i64 0] 46 :: L))
  case first =>
    go_wp2_with fail
    go_loopw [15] (fun i wr => ∃ k : Nat, k ≤ 16 ∧ i = .int .i64 k ∧ Sat W0 wr (blk q (svals ⟨fr, cellsAt k b1 e1, 0, false, 0⟩) 46 :: Rr p (rd4 k b1 e1).2.1 (rd4 k b1 e1).2.2 :: blk pr [.int .i64 0, .int .i32 0, .int .i32 0, .int .i32 0, .int .i32 0, .int .i32 0, .int .i32 0, .int .i32 0, .int .i32 0, .int .i32 0, .int .i32 0, .int .i32 0, .int .i32 0, .int .i32 0, .int .i32 0, .int .i32 0, .int .i32 0, .int .u32 0, .bool false, .int .i64 0] 46 :: L)) (fun i _ => 16 - (intOf i).toNat)
    case atStart => exact ⟨0, by omega, rfl, S6⟩
    case round =>
      clear S6
      obtain ⟨k, hk, rfl, S7⟩ := hrel
      have k0 : (0 : Int) ≤ (k : Int) := Int.natCast_nonneg _
      by_cases hlt : k < 16
      · have hkI : (k : Int) < 16 := by omega
        have hBk := rd4_bytes k (e := e1) hB1
        have hv := le_tk4 hBk (rd4 k b1 e1).2.2
        have hnext := cellsAt_next hlt b1 e1
        have hsn := rd4_snoc k b1 e1
        have hlen := cellsAt_len hk b1 e1
        rw [← i32_wrap32 hv] at hnext
        have e2 : (rd4 (k + 1) b1 e1).2 = (tk 4 (rd4 k b1 e1).2.1 (rd4 k b1 e1).2.2).2 := by rw [hsn]
        have E2 := Lib.hid e2
        have HNX := Lib.hid hnext
        have HLEN := Lib.hid hlen
        clear hsn e2 hnext hlen
        go_wp2_with (go_at_call 60; refine (rFour_any (S7.sel [1]) hBk).mono ?_; rintro e w8 ⟨rfl, S8⟩; have hA := st_at HLEN.out (S8.sel [1]); have c1 := hA.cells k hlt; have f1 := hA.free (1 + k); clear hA)
        have S9 := (S8.sel [1]).setCell 0 (k := 1 + k) (v := .int .i32 (wrap32 (le (tk 4 (rd4 k b1 e1).2.1 (rd4 k b1 e1).2.2).1))) rfl
        have S10 : Sat W0 (w8.setCell ⟨q, 1 + k, none⟩ (.int .i32 (wrap32 (le (tk 4 (rd4 k b1 e1).2.1 (rd4 k b1 e1).2.2).1)))) (blk q (svals ⟨fr, cellsAt (k + 1) b1 e1, 0, false, 0⟩) 46 :: Rr p (rd4 (k + 1) b1 e1).2.1 (rd4 (k + 1) b1 e1).2.2 :: blk pr [.int .i64 0, .int .i32 0, .int .i32 0, .int .i32 0, .int .i32 0, .int .i32 0, .int .i32 0, .int .i32 0, .int .i32 0, .int .i32 0, .int .i32 0, .int .i32 0, .int .i32 0, .int .i32 0, .int .i32 0, .int .i32 0, .int .i32 0, .int .u32 0, .bool false, .int .i64 0] 46 :: L) := by
          rw [E2.out, ← HNX.out, ← svals_set (s := ⟨fr, cellsAt k b1 e1, 0, false, 0⟩) HLEN.out hlt]
          exact S9
        exact ⟨⟨k + 1, by omega, by go_num, S10⟩, by simp [intOf]; omega⟩
      · obtain rfl : k = 16 := by omega
        go_wp2_with fail
        go_meet
        exact S7
  case rest =>
    have S7 := hcut
    clear S6 hcut
    obtain ⟨cs, b2, e2, hc⟩ : ∃ cs b2 e2, rd4 16 b1 e1 = (cs, b2, e2) := ⟨_, _, _, rfl⟩
    obtain ⟨dl, b3, e3, hd⟩ : ∃ dl b3 e3, tk 4 b2 e2 = (dl, b3, e3) := ⟨_, _, _, rfl⟩
    obtain ⟨ol, b4, e4, ho⟩ : ∃ ol b4 e4, tk 1 b3 e3 = (ol, b4, e4) := ⟨_, _, _, rfl⟩
    obtain ⟨nl, b5, e5, hn⟩ : ∃ nl b5 e5, tk 1 b4 e4 = (nl, b5, e5) := ⟨_, _, _, rfl⟩
    obtain ⟨ee, he⟩ : ∃ ee, endOf b5 e5 = ee := ⟨_, rfl⟩
    have hB2 : Bytes b2 := by have := rd4_bytes 16 (e := e1) hB1; rw [hc] at this; exact this
    have hB3 : Bytes b3 := by have := tkB (n := 4) (e := e2) hB2; rw [hd] at this; exact this
    have hB4 : Bytes b4 := by have := tkB (n := 1) (e := e3) hB3; rw [ho] at this; exact this
    have hdv : 0 ≤ le dl ∧ le dl < 4294967296 := by have := le_tk4 hB2 e2; rw [hd] at this; exact this
    have hov : 0 ≤ le ol ∧ le ol < 256 := by have := le_tk1 hB3 e3; rw [ho] at this; exact this
    have hnv : 0 ≤ le nl ∧ le nl < 256 := by have := le_tk1 hB4 e4; rw [hn] at this; exact this
    have hcl : (cs.map i32of).length = 16 := by have := rd4_len 16 b1 e1; rw [hc] at this; rw [List.length_map]; exact this
    have hca : cellsAt 16 b1 e1 = cs.map i32of := by rw [cellsAt_all, hc]
    rw [hca, hc] at S7
    have hdec : decP bs = (if (if ee = 0 ∧ (1 < le ol ∨ isP ⟨fr, cs.map i32of, le dl, decide (le ol = 1), le nl⟩ = false) then 3 else ee) ≠ 0 then (VS.zero, if ee = 0 ∧ (1 < le ol ∨ isP ⟨fr, cs.map i32of, le dl, decide (le ol = 1), le nl⟩ = false) then 3 else ee) else (⟨fr, cs.map i32of, le dl, decide (le ol = 1), le nl⟩, 0)) := by
      unfold decP
      simp only [HA.out, hc, hd, ho, hn, he]
    obtain ⟨ob, hob⟩ : ∃ ob : Bool, decide (le ol = 1) = ob := ⟨_, rfl⟩
    rw [hob] at hdec
    have hz1 : (le ol == 1) = ob := by rw [← hob]; cases hq : decide (le ol = 1) <;> simp_all
    have HD := Lib.hid hd
    have HO := Lib.hid ho
    have HN2 := Lib.hid hn
    have HE := Lib.hid he
    have HDEC := Lib.hid hdec
    have HCL := Lib.hid hcl
    clear hc hd ho hn he hdec hcl hca hob
    generalize cs.map i32of = cells at S7 HDEC HCL
    have HL20 : Hid ((svals ⟨fr, cells, le dl, ob, le nl⟩).length = 20) := svals_length (s := ⟨fr, cells, le dl, ob, le nl⟩) HCL.out
    by_cases hee : ee = 0
    · subst hee
      by_cases hgt : 1 < le ol
      · have hq : (if (0 : Int) = 0 ∧ (1 < le ol ∨ isP ⟨fr, cells, le dl, ob, le nl⟩ = false) then (3 : Int) else 0) = 3 := if_pos ⟨rfl, .inl hgt⟩
        have hres : decP bs = (VS.zero, 3) := by rw [HDEC.out, hq, if_pos (by decide)]
        have HRES := Lib.hid hres
        clear hres hq
        go_wp2_with (first
        | (refine wpList_store_sat (off := 0) (n := 20) rfl 46 _ _ rfl (S12.sel [2]) rfl rfl rfl (by decide) Tryz.sizeS zero_one ?_; intro w14 S14)
        | (go_at_call 63; refine (isState_any S12 HCL.out).mono ?_; rintro e w13 ⟨rfl, S13⟩; rw [HI.out])
        | (refine wpList_load_guard rfl 46 _ rfl (n := 20) rfl (Sat.whole S12 20) HL20.out Tryz.underlying46 rfl Tryz.sizeS ?_)
        | (go_at_call 62; refine (end_any (S12.sel [1])).mono ?_; rintro e w' ⟨rfl, rfl⟩; rw [HE.out])
        | (go_at_call 61; refine (rByte_any S10 hB4).mono ?_; rintro e w11 ⟨rfl, S11⟩; rw [HN2.out] at S11 ⊢; have hA := st_at (s := ⟨fr, cells, le dl, false, 0⟩) HCL.out (S11.sel [1]); have c18 := hA.over; have c19 := hA.winner; have f18 := hA.free 18; have f19 := hA.free 19; clear hA; have S12 := dec_two HCL.out (S11.sel [1]) ob (le nl))
        | (go_at_call 61; refine (rByte_any S9 hB3).mono ?_; rintro e w10 ⟨rfl, S10⟩; rw [HO.out] at S10 ⊢)
        | (go_at_call 60; refine (rFour_any (S7.sel [1]) hB2).mono ?_; rintro e w8 ⟨rfl, S8⟩; rw [HD.out] at S8 ⊢; have hA := st_at (s := ⟨fr, cells, 0, false, 0⟩) HCL.out (S8.sel [1]); have c17 := hA.seed; have f17 := hA.free 17; clear hA; have S9 := (dec_seed HCL.out (S8.sel [1]) (le dl)).sel [1]))
        refine bodyPost_ret (results_cell_tmp_sat rfl _ S14 rfl Tryz.underlying46 rfl Tryz.sizeS rfl) rfl ⟨?_, Sat.tail (Sat.tail (Sat.tail S14))⟩
        rw [HRES.out]; rfl
      · have hle1 : le ol ≤ 1 := by omega
        have hdg : decide (1 < le ol) = false := decide_eq_false hgt
        cases hi : isP ⟨fr, cells, le dl, ob, le nl⟩ with
        | false =>
          have hq : (if (0 : Int) = 0 ∧ (1 < le ol ∨ isP ⟨fr, cells, le dl, ob, le nl⟩ = false) then (3 : Int) else 0) = 3 := if_pos ⟨rfl, .inr hi⟩
          have hres : decP bs = (VS.zero, 3) := by rw [HDEC.out, hq, if_pos (by decide)]
          have HRES := Lib.hid hres
          have HI := Lib.hid hi
          clear hres hq hi
          go_wp2_with (first
          | (refine wpList_store_sat (off := 0) (n := 20) rfl 46 _ _ rfl (S13.sel [2]) rfl rfl rfl (by decide) Tryz.sizeS zero_one ?_; intro w14 S14)
          | (go_at_call 63; refine (isState_any S12 HCL.out).mono ?_; rintro e w13 ⟨rfl, S13⟩; rw [HI.out])
          | (refine wpList_load_guard rfl 46 _ rfl (n := 20) rfl (Sat.whole S12 20) HL20.out Tryz.underlying46 rfl Tryz.sizeS ?_)
          | (go_at_call 62; refine (end_any (S12.sel [1])).mono ?_; rintro e w' ⟨rfl, rfl⟩; rw [HE.out])
          | (go_at_call 61; refine (rByte_any S10 hB4).mono ?_; rintro e w11 ⟨rfl, S11⟩; rw [HN2.out] at S11 ⊢; have hA := st_at (s := ⟨fr, cells, le dl, false, 0⟩) HCL.out (S11.sel [1]); have c18 := hA.over; have c19 := hA.winner; have f18 := hA.free 18; have f19 := hA.free 19; clear hA; have S12 := dec_two HCL.out (S11.sel [1]) ob (le nl))
          | (go_at_call 61; refine (rByte_any S9 hB3).mono ?_; rintro e w10 ⟨rfl, S10⟩; rw [HO.out] at S10 ⊢)
          | (go_at_call 60; refine (rFour_any (S7.sel [1]) hB2).mono ?_; rintro e w8 ⟨rfl, S8⟩; rw [HD.out] at S8 ⊢; have hA := st_at (s := ⟨fr, cells, 0, false, 0⟩) HCL.out (S8.sel [1]); have c17 := hA.seed; have f17 := hA.free 17; clear hA; have S9 := (dec_seed HCL.out (S8.sel [1]) (le dl)).sel [1]))
          refine bodyPost_ret (results_cell_tmp_sat rfl _ S14 rfl Tryz.underlying46 rfl Tryz.sizeS rfl) rfl ⟨?_, Sat.tail (Sat.tail (Sat.tail S14))⟩
          rw [HRES.out]; rfl
        | true =>
          have hq : (if (0 : Int) = 0 ∧ (1 < le ol ∨ isP ⟨fr, cells, le dl, ob, le nl⟩ = false) then (3 : Int) else 0) = 0 := if_neg (fun h => by rcases h.2 with h | h; exact hgt h; rw [hi] at h; cases h)
          have hres : decP bs = (⟨fr, cells, le dl, ob, le nl⟩, 0) := by rw [HDEC.out, hq, if_neg (by decide)]
          have HRES := Lib.hid hres
          have HI := Lib.hid hi
          clear hres hq hi
          go_wp2_with (first
          | (refine wpList_store_sat (off := 0) (n := 20) rfl 46 _ _ rfl (S13.sel [2]) rfl rfl HL20.out (by decide) Tryz.sizeS (svals_one _) ?_; intro w14 S14; rw [zstore] at S14)
          | (refine wpList_load_part rfl 46 _ rfl (n := 20) rfl (Sat.whole S13 20) HL20.out Tryz.underlying46 rfl Tryz.sizeS ?_)
          | (go_at_call 63; refine (isState_any S12 HCL.out).mono ?_; rintro e w13 ⟨rfl, S13⟩; rw [HI.out])
          | (refine wpList_load_guard rfl 46 _ rfl (n := 20) rfl (Sat.whole S12 20) HL20.out Tryz.underlying46 rfl Tryz.sizeS ?_)
          | (go_at_call 62; refine (end_any (S12.sel [1])).mono ?_; rintro e w' ⟨rfl, rfl⟩; rw [HE.out])
          | (go_at_call 61; refine (rByte_any S10 hB4).mono ?_; rintro e w11 ⟨rfl, S11⟩; rw [HN2.out] at S11 ⊢; have hA := st_at (s := ⟨fr, cells, le dl, false, 0⟩) HCL.out (S11.sel [1]); have c18 := hA.over; have c19 := hA.winner; have f18 := hA.free 18; have f19 := hA.free 19; clear hA; have S12 := dec_two HCL.out (S11.sel [1]) ob (le nl))
          | (go_at_call 61; refine (rByte_any S9 hB3).mono ?_; rintro e w10 ⟨rfl, S10⟩; rw [HO.out] at S10 ⊢)
          | (go_at_call 60; refine (rFour_any (S7.sel [1]) hB2).mono ?_; rintro e w8 ⟨rfl, S8⟩; rw [HD.out] at S8 ⊢; have hA := st_at (s := ⟨fr, cells, 0, false, 0⟩) HCL.out (S8.sel [1]); have c17 := hA.seed; have f17 := hA.free 17; clear hA; have S9 := (dec_seed HCL.out (S8.sel [1]) (le dl)).sel [1]))
          refine bodyPost_ret (results_cell_tmp_sat rfl _ S14 rfl Tryz.underlying46 rfl (by rw [HL20.out]; exact Tryz.sizeS) rfl) rfl ⟨?_, Sat.tail (Sat.tail (Sat.tail S14))⟩
          rw [HRES.out]; rfl
    · have hz : (ee == 0) = false := by simpa using hee
      have hz2 : (ee != 0) = true := by simpa using hee
      have hq : (if ee = 0 ∧ (1 < le ol ∨ isP ⟨fr, cells, le dl, ob, le nl⟩ = false) then 3 else ee) = ee := if_neg (fun h => hee h.1)
      have hres : decP bs = (VS.zero, ee) := by rw [HDEC.out, hq, if_pos hee]
      clear hq
      have HRES := Lib.hid hres
      clear hee hres
      go_wp2_with (first
      | (refine wpList_store_sat (off := 0) (n := 20) rfl 46 _ _ rfl (S12.sel [2]) rfl rfl rfl (by decide) Tryz.sizeS zero_one ?_; intro w14 S14)
      | (go_at_call 63; refine (isState_any S12 HCL.out).mono ?_; rintro e w13 ⟨rfl, S13⟩; rw [HI.out])
      | (refine wpList_load_guard rfl 46 _ rfl (n := 20) rfl (Sat.whole S12 20) HL20.out Tryz.underlying46 rfl Tryz.sizeS ?_)
      | (go_at_call 62; refine (end_any (S12.sel [1])).mono ?_; rintro e w' ⟨rfl, rfl⟩; rw [HE.out])
      | (go_at_call 61; refine (rByte_any S10 hB4).mono ?_; rintro e w11 ⟨rfl, S11⟩; rw [HN2.out] at S11 ⊢; have hA := st_at (s := ⟨fr, cells, le dl, false, 0⟩) HCL.out (S11.sel [1]); have c18 := hA.over; have c19 := hA.winner; have f18 := hA.free 18; have f19 := hA.free 19; clear hA; have S12 := dec_two HCL.out (S11.sel [1]) ob (le nl))
      | (go_at_call 61; refine (rByte_any S9 hB3).mono ?_; rintro e w10 ⟨rfl, S10⟩; rw [HO.out] at S10 ⊢)
      | (go_at_call 60; refine (rFour_any (S7.sel [1]) hB2).mono ?_; rintro e w8 ⟨rfl, S8⟩; rw [HD.out] at S8 ⊢; have hA := st_at (s := ⟨fr, cells, 0, false, 0⟩) HCL.out (S8.sel [1]); have c17 := hA.seed; have f17 := hA.free 17; clear hA; have S9 := (dec_seed HCL.out (S8.sel [1]) (le dl)).sel [1]))
      refine bodyPost_ret (results_cell_tmp_sat rfl _ S14 rfl Tryz.underlying46 rfl Tryz.sizeS rfl) rfl ⟨?_, Sat.tail (Sat.tail (Sat.tail S14))⟩
      rw [HRES.out]; rfl
end Go.Proofs.YtjdeeloemhjbhaaGreat
