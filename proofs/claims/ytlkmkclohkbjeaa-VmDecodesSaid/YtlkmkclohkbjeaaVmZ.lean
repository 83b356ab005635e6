/-
  Chapter 10's document: a state out of bytes.
-/
import Derived.Test.YtlkmkclohkbjeaaVmX
import Derived.Test.YtlkmkclohkbjeaaVmY
import Derived.Test.YtlkmkclohkbjeaaVmW3
import Derived.StillTailTactics
import Derived.Deep.DeepCutAuto
import Derived.Deep.CutBlock
namespace Go.Proofs.Ytlkmkclohkbjeaa
open Go.RowKit Go.Sep Go.Oct Go.Vm
set_option linter.unusedSimpArgs false

theorem dec_over {W0 w : World} {L : List Asn} {q : Nat} {s : VS} (h : s.cells.length = 16) (S : Sat W0 w (blk q (svals s) 28 :: L)) (o : Bool) : Sat W0 (w.setCell ⟨q, 18, none⟩ (.bool o)) (blk q (svals { s with over := o }) 28 :: L) := by
  rw [← svals_setOver h]; exact S.setCell 0 rfl

set_option maxRecDepth 100000 in
set_option maxHeartbeats 3200000 in
theorem r10Decode_any {W0 w : World} {L : List Asn} (S : Sat W0 w L) {a : Option Addr} {m c : Nat} {bs : List Int} (hR : ∀ w', Sat W0 w' L → Rd w' a (bv bs)) (hm : bs.length = m) (hmc : m ≤ c) (htop : c ≤ maxLen) (hB : Bytes bs) :
    Calls Try.prog 28 #[.slice a m c] w (Stepped W0 L (decP bs)) := by
  obtain ⟨fr, b1, e1, ha⟩ : ∃ fr b1 e1, rdNum bs 0 = (fr, b1, e1) := ⟨_, _, _, rfl⟩
  have hB1 : Bytes b1 := by have := rdNum_bytes (e := 0) hB; rw [ha] at this; exact this
  have HA := Lib.hid ha
  have HM := Lib.hid hm
  have S1 := ((S.alloc [.int .i64 0, .int .i32 0, .int .i32 0, .int .i32 0, .int .i32 0, .int .i32 0, .int .i32 0, .int .i32 0, .int .i32 0, .int .i32 0, .int .i32 0, .int .i32 0, .int .i32 0, .int .i32 0, .int .i32 0, .int .i32 0, .int .i32 0, .int .u32 0, .bool false, .int .i64 0] 28).alloc [.slice a m c, .int .i64 0] 88).alloc [.int .i64 0, .int .i32 0, .int .i32 0, .int .i32 0, .int .i32 0, .int .i32 0, .int .i32 0, .int .i32 0, .int .i32 0, .int .i32 0, .int .i32 0, .int .i32 0, .int .i32 0, .int .i32 0, .int .i32 0, .int .i32 0, .int .i32 0, .int .u32 0, .bool false, .int .i64 0] 28
  simp only [World.size_alloc] at S1
  have hn1 : e1 ≠ 0 → b1 = [] := by have := rdNum_none (bs := bs); rw [ha] at this; exact this
  have H0 : Rest W0 L a m c bs := ⟨hR, hm, hmc, htop, hB⟩
  have hK : ∀ (A B : Asn) (w' : World), Sat W0 w' (A :: B :: L) → Sat W0 w' L := fun _ _ _ h => h.tail.tail
  have S2 : Sat W0 _ (R1 (w.heap.size + 1) a m c 0 :: _) := S1.sel [1]
  clear ha hm
  go_enter Try.func28, Try.ntmps28
  go_upto_block 0 with (go_at_call 47; refine (r1Num_any (hK _ _) H0 (fun h => absurd rfl h) S2).mono ?_; unfold Given; rintro e w3 ⟨a1, n1, c1, H1, rfl, S3⟩; rw [HA.out] at H1 S3 ⊢; have d0 := S3.cell 1 rfl 0; have f0 := S3.frozen 1 rfl 0; simp only [List.getElem?_cons_zero] at d0; have S5 := (S3.sel [1]).setCell 0 (k := 0) (v := .int .i64 fr) rfl)
  have S6 : Sat W0 (w3.setCell ⟨w.heap.size + 1 + 1, 0, none⟩ (.int .i64 fr)) (blk (w.heap.size + 1 + 1) (svals ⟨fr, cellsAt 0 b1 e1, 0, false, 0⟩) 28 :: R1 (w.heap.size + 1) a1 n1 c1 (rd4 0 b1 e1).2.2 :: blk w.heap.size [.int .i64 0, .int .i32 0, .int .i32 0, .int .i32 0, .int .i32 0, .int .i32 0, .int .i32 0, .int .i32 0, .int .i32 0, .int .i32 0, .int .i32 0, .int .i32 0, .int .i32 0, .int .i32 0, .int .i32 0, .int .i32 0, .int .i32 0, .int .u32 0, .bool false, .int .i64 0] 28 :: L) := S5
  generalize w3.setCell ⟨w.heap.size + 1 + 1, 0, none⟩ (.int .i64 fr) = w5 at S6 ⊢
  clear S1 S2 S3 S5 d0 f0
  generalize w.heap.size + 1 + 1 = q at S6 ⊢
  generalize w.heap.size + 1 = p at S6 ⊢
  generalize w.heap.size = pr at S6 ⊢
  go_cut [] (fun wx => ∃ a2 n2 c2, Rest W0 L a2 n2 c2 (rd4 16 b1 e1).2.1 ∧ Sat W0 wx (blk q (svals ⟨fr, cellsAt 16 b1 e1, 0, false, 0⟩) 28 :: R1 p a2 n2 c2 (rd4 16 b1 e1).2.2 :: blk pr [.int .i64 0, .int .i32 0, .int .i32 0, .int .i32 0, .int .i32 0, .int .i32 0, .int .i32 0, .int .i32 0, .int .i32 0, .int .i32 0, .int .i32 0, .int .i32 0, .int .i32 0, .int .i32 0, .int .i32 0, .int .i32 0, .int .i32 0, .int .u32 0, .bool false, .int .i64 0] 28 :: L))
  case first =>
    go_wp2_with fail
    go_loopw [6] (fun i wr => ∃ (k : Nat) (a2 : Option Addr) (n2 c2 : Nat), k ≤ 16 ∧ i = .int .i64 k ∧ Rest W0 L a2 n2 c2 (rd4 k b1 e1).2.1 ∧ Sat W0 wr (blk q (svals ⟨fr, cellsAt k b1 e1, 0, false, 0⟩) 28 :: R1 p a2 n2 c2 (rd4 k b1 e1).2.2 :: blk pr [.int .i64 0, .int .i32 0, .int .i32 0, .int .i32 0, .int .i32 0, .int .i32 0, .int .i32 0, .int .i32 0, .int .i32 0, .int .i32 0, .int .i32 0, .int .i32 0, .int .i32 0, .int .i32 0, .int .i32 0, .int .i32 0, .int .i32 0, .int .u32 0, .bool false, .int .i64 0] 28 :: L)) (fun i _ => 16 - (intOf i).toNat)
    case atStart => exact ⟨0, a1, n1, c1, by omega, rfl, H1, S6⟩
    case round =>
      clear S6
      obtain ⟨k, a2, n2, c2, hk, rfl, H2, S7⟩ := hrel
      have hnk := rd4_none k hn1
      have k0 : (0 : Int) ≤ (k : Int) := Int.natCast_nonneg _
      by_cases hlt : k < 16
      · have hkI : (k : Int) < 16 := by omega
        have hBk := rd4_bytes k (e := e1) hB1
        have hv := le_tk4 hBk (rd4 k b1 e1).2.2
        have hnext := cellsAt_next hlt b1 e1
        have hsn := rd4_snoc k b1 e1
        have hlen := cellsAt_len hk b1 e1
        rw [← i32_wrap32 hv] at hnext
        have e2 : (rd4 (k + 1) b1 e1).2 = (tk 4 (rd4 k b1 e1).2.1 (rd4 k b1 e1).2.2).2 := by rw [hsn]
        have E2 := Lib.hid e2
        have HNX := Lib.hid hnext
        have HLEN := Lib.hid hlen
        clear hsn e2 hnext hlen
        go_wp2_with (go_at_call 48; refine (r1Four_any (hK _ _) H2 hnk (S7.sel [1])).mono ?_; unfold Given; rintro e w8 ⟨a3, n3, c3, H3, rfl, S8⟩; have hA := st_at HLEN.out (S8.sel [1]); have c1 := hA.cells k hlt; have f1 := hA.free (1 + k); clear hA)
        have S9 := (S8.sel [1]).setCell 0 (k := 1 + k) (v := .int .i32 (wrap32 (le (tk 4 (rd4 k b1 e1).2.1 (rd4 k b1 e1).2.2).1))) rfl
        have S10 : Sat W0 (w8.setCell ⟨q, 1 + k, none⟩ (.int .i32 (wrap32 (le (tk 4 (rd4 k b1 e1).2.1 (rd4 k b1 e1).2.2).1)))) (blk q (svals ⟨fr, cellsAt (k + 1) b1 e1, 0, false, 0⟩) 28 :: R1 p a3 n3 c3 (rd4 (k + 1) b1 e1).2.2 :: blk pr [.int .i64 0, .int .i32 0, .int .i32 0, .int .i32 0, .int .i32 0, .int .i32 0, .int .i32 0, .int .i32 0, .int .i32 0, .int .i32 0, .int .i32 0, .int .i32 0, .int .i32 0, .int .i32 0, .int .i32 0, .int .i32 0, .int .i32 0, .int .u32 0, .bool false, .int .i64 0] 28 :: L) := by
          rw [E2.out, ← HNX.out, ← svals_set (s := ⟨fr, cellsAt k b1 e1, 0, false, 0⟩) HLEN.out hlt]
          exact S9
        exact ⟨⟨k + 1, a3, n3, c3, by omega, by go_num, by rw [E2.out]; exact H3, S10⟩, by simp [intOf]; omega⟩
      · obtain rfl : k = 16 := by omega
        go_wp2_with fail
        go_meet
        exact ⟨a2, n2, c2, H2, S7⟩
  case rest =>
    obtain ⟨a2, n2, c2, H2, S7⟩ := hcut
    clear S6 H1
    obtain ⟨cs, b2, e2, hc⟩ : ∃ cs b2 e2, rd4 16 b1 e1 = (cs, b2, e2) := ⟨_, _, _, rfl⟩
    obtain ⟨dl, b3, e3, hd⟩ : ∃ dl b3 e3, tk 4 b2 e2 = (dl, b3, e3) := ⟨_, _, _, rfl⟩
    obtain ⟨ol, b4, e4, ho⟩ : ∃ ol b4 e4, tk 1 b3 e3 = (ol, b4, e4) := ⟨_, _, _, rfl⟩
    obtain ⟨nl, b5, e5, hn⟩ : ∃ nl b5 e5, tk 1 b4 e4 = (nl, b5, e5) := ⟨_, _, _, rfl⟩
    obtain ⟨ee, he⟩ : ∃ ee, endOf b5 e5 = ee := ⟨_, rfl⟩
    have hB2 : Bytes b2 := by have := rd4_bytes 16 (e := e1) hB1; rw [hc] at this; exact this
    have hB3 : Bytes b3 := by have := tkB (n := 4) (e := e2) hB2; rw [hd] at this; exact this
    have hB4 : Bytes b4 := by have := tkB (n := 1) (e := e3) hB3; rw [ho] at this; exact this
    have hdv : 0 ≤ le dl ∧ le dl < 4294967296 := by have := le_tk4 hB2 e2; rw [hd] at this; exact this
    have hov : 0 ≤ le ol ∧ le ol < 256 := by have := le_tk1 hB3 e3; rw [ho] at this; exact this
    have hnv : 0 ≤ le nl ∧ le nl < 256 := by have := le_tk1 hB4 e4; rw [hn] at this; exact this
    have hcl : (cs.map i32of).length = 16 := by have := rd4_len 16 b1 e1; rw [hc] at this; rw [List.length_map]; exact this
    have hca : cellsAt 16 b1 e1 = cs.map i32of := by rw [cellsAt_all, hc]
    rw [hca, hc] at S7
    rw [hc] at H2
    have hnc : e2 ≠ 0 → b2 = [] := by have := rd4_none 16 hn1; rw [hc] at this; exact this
    have hnd : e3 ≠ 0 → b3 = [] := by have := tk_err (n := 4) hnc; rw [hd] at this; exact this
    have hno : e4 ≠ 0 → b4 = [] := by have := tk_err (n := 1) hnd; rw [ho] at this; exact this
    have hdec : decP bs = (if (if ee = 0 ∧ (1 < le ol ∨ isP ⟨fr, cs.map i32of, le dl, decide (le ol = 1), le nl⟩ = false) then 3 else ee) ≠ 0 then (VS.zero, if ee = 0 ∧ (1 < le ol ∨ isP ⟨fr, cs.map i32of, le dl, decide (le ol = 1), le nl⟩ = false) then 3 else ee) else (⟨fr, cs.map i32of, le dl, decide (le ol = 1), le nl⟩, 0)) := by
      unfold decP
      simp only [HA.out, hc, hd, ho, hn, he]
    obtain ⟨ob, hob⟩ : ∃ ob : Bool, decide (le ol = 1) = ob := ⟨_, rfl⟩
    rw [hob] at hdec
    have hz1 : (le ol == 1) = ob := by rw [← hob]; cases hq : decide (le ol = 1) <;> simp_all
    have HD := Lib.hid hd
    have HO := Lib.hid ho
    have HN2 := Lib.hid hn
    have HE := Lib.hid he
    have HDEC := Lib.hid hdec
    have HCL := Lib.hid hcl
    clear hc hd ho hn he hdec hcl hca hob
    generalize cs.map i32of = cells at S7 HDEC HCL
    have HL20 : Hid ((svals ⟨fr, cells, le dl, ob, le nl⟩).length = 20) := svals_length (s := ⟨fr, cells, le dl, ob, le nl⟩) HCL.out
    by_cases hee : ee = 0
    · subst hee
      by_cases hgt : 1 < le ol
      · have hq : (if (0 : Int) = 0 ∧ (1 < le ol ∨ isP ⟨fr, cells, le dl, ob, le nl⟩ = false) then (3 : Int) else 0) = 3 := if_pos ⟨rfl, .inl hgt⟩
        have hres : decP bs = (VS.zero, 3) := by rw [HDEC.out, hq, if_pos (by decide)]
        have HRES := Lib.hid hres
        clear hres hq
        go_wp2_with (first
        | (refine wpList_store_sat (off := 0) (n := 20) rfl 28 _ _ rfl (S12.sel [2]) rfl rfl rfl (by decide) Try.sizeS zero_one ?_; intro w14 S14)
        | (go_at_call 35; refine (r10is_any S12 HCL.out).mono ?_; rintro e w13 ⟨rfl, S13⟩; rw [HI.out])
        | (refine wpList_load_guard rfl 28 _ rfl (n := 20) rfl (Sat.whole S12 20) HL20.out Try.underlying28 rfl Try.sizeS ?_)
        | (go_at_call 50; refine (r1End_any H5 (S12.sel [1])).mono ?_; rintro e w' ⟨rfl, rfl⟩; rw [HE.out])
        | (go_at_call 49; refine (r1Byte_any (hK _ _) H4 hno S10b).mono ?_; unfold Given; rintro e w11 ⟨a5, n5, c5, H5, rfl, S11⟩; rw [HN2.out] at H5 S11 ⊢; have hA := st_at (s := ⟨fr, cells, le dl, ob, 0⟩) HCL.out (S11.sel [1]); have c19 := hA.winner; have f19 := hA.free 19; clear hA; have S12 := st_wn (s := ⟨fr, cells, le dl, ob, 0⟩) HCL.out (S11.sel [1]) (le nl))
        | (go_at_call 49; refine (r1Byte_any (hK _ _) H3 hnd S9).mono ?_; unfold Given; rintro e w10 ⟨a4, n4, c4, H4, rfl, S10⟩; rw [HO.out] at H4 S10 ⊢; have hA := st_at (s := ⟨fr, cells, le dl, false, 0⟩) HCL.out (S10.sel [1]); have c18 := hA.over; have f18 := hA.free 18; clear hA; have S10b := (dec_over (s := ⟨fr, cells, le dl, false, 0⟩) HCL.out (S10.sel [1]) ob).sel [1])
        | (go_at_call 48; refine (r1Four_any (hK _ _) H2 hnc (S7.sel [1])).mono ?_; unfold Given; rintro e w8 ⟨a3, n3, c3, H3, rfl, S8⟩; rw [HD.out] at H3 S8 ⊢; have hA := st_at (s := ⟨fr, cells, 0, false, 0⟩) HCL.out (S8.sel [1]); have c17 := hA.seed; have f17 := hA.free 17; clear hA; have S9 := (dec_seed HCL.out (S8.sel [1]) (le dl)).sel [1]))
        refine bodyPost_ret (results_cell_tmp_sat rfl _ S14 rfl Try.underlying28 rfl Try.sizeS rfl) rfl ⟨?_, Sat.tail (Sat.tail (Sat.tail S14))⟩
        rw [HRES.out]; rfl
      · have hle1 : le ol ≤ 1 := by omega
        have hdg : decide (1 < le ol) = false := decide_eq_false hgt
        cases hi : isP ⟨fr, cells, le dl, ob, le nl⟩ with
        | false =>
          have hq : (if (0 : Int) = 0 ∧ (1 < le ol ∨ isP ⟨fr, cells, le dl, ob, le nl⟩ = false) then (3 : Int) else 0) = 3 := if_pos ⟨rfl, .inr hi⟩
          have hres : decP bs = (VS.zero, 3) := by rw [HDEC.out, hq, if_pos (by decide)]
          have HRES := Lib.hid hres
          have HI := Lib.hid hi
          clear hres hq hi
          go_wp2_with (first
          | (refine wpList_store_sat (off := 0) (n := 20) rfl 28 _ _ rfl (S13.sel [2]) rfl rfl rfl (by decide) Try.sizeS zero_one ?_; intro w14 S14)
          | (go_at_call 35; refine (r10is_any S12 HCL.out).mono ?_; rintro e w13 ⟨rfl, S13⟩; rw [HI.out])
          | (refine wpList_load_guard rfl 28 _ rfl (n := 20) rfl (Sat.whole S12 20) HL20.out Try.underlying28 rfl Try.sizeS ?_)
          | (go_at_call 50; refine (r1End_any H5 (S12.sel [1])).mono ?_; rintro e w' ⟨rfl, rfl⟩; rw [HE.out])
          | (go_at_call 49; refine (r1Byte_any (hK _ _) H4 hno S10b).mono ?_; unfold Given; rintro e w11 ⟨a5, n5, c5, H5, rfl, S11⟩; rw [HN2.out] at H5 S11 ⊢; have hA := st_at (s := ⟨fr, cells, le dl, ob, 0⟩) HCL.out (S11.sel [1]); have c19 := hA.winner; have f19 := hA.free 19; clear hA; have S12 := st_wn (s := ⟨fr, cells, le dl, ob, 0⟩) HCL.out (S11.sel [1]) (le nl))
          | (go_at_call 49; refine (r1Byte_any (hK _ _) H3 hnd S9).mono ?_; unfold Given; rintro e w10 ⟨a4, n4, c4, H4, rfl, S10⟩; rw [HO.out] at H4 S10 ⊢; have hA := st_at (s := ⟨fr, cells, le dl, false, 0⟩) HCL.out (S10.sel [1]); have c18 := hA.over; have f18 := hA.free 18; clear hA; have S10b := (dec_over (s := ⟨fr, cells, le dl, false, 0⟩) HCL.out (S10.sel [1]) ob).sel [1])
          | (go_at_call 48; refine (r1Four_any (hK _ _) H2 hnc (S7.sel [1])).mono ?_; unfold Given; rintro e w8 ⟨a3, n3, c3, H3, rfl, S8⟩; rw [HD.out] at H3 S8 ⊢; have hA := st_at (s := ⟨fr, cells, 0, false, 0⟩) HCL.out (S8.sel [1]); have c17 := hA.seed; have f17 := hA.free 17; clear hA; have S9 := (dec_seed HCL.out (S8.sel [1]) (le dl)).sel [1]))
          refine bodyPost_ret (results_cell_tmp_sat rfl _ S14 rfl Try.underlying28 rfl Try.sizeS rfl) rfl ⟨?_, Sat.tail (Sat.tail (Sat.tail S14))⟩
          rw [HRES.out]; rfl
        | true =>
          have hq : (if (0 : Int) = 0 ∧ (1 < le ol ∨ isP ⟨fr, cells, le dl, ob, le nl⟩ = false) then (3 : Int) else 0) = 0 := if_neg (fun h => by rcases h.2 with h | h; exact hgt h; rw [hi] at h; cases h)
          have hres : decP bs = (⟨fr, cells, le dl, ob, le nl⟩, 0) := by rw [HDEC.out, hq, if_neg (by decide)]
          have HRES := Lib.hid hres
          have HI := Lib.hid hi
          clear hres hq hi
          go_wp2_with (first
          | (refine wpList_store_sat (off := 0) (n := 20) rfl 28 _ _ rfl (S13.sel [2]) rfl rfl HL20.out (by decide) Try.sizeS (svals_one _) ?_; intro w14 S14; rw [zstore] at S14)
          | (refine wpList_load_part rfl 28 _ rfl (n := 20) rfl (Sat.whole S13 20) HL20.out Try.underlying28 rfl Try.sizeS ?_)
          | (go_at_call 35; refine (r10is_any S12 HCL.out).mono ?_; rintro e w13 ⟨rfl, S13⟩; rw [HI.out])
          | (refine wpList_load_guard rfl 28 _ rfl (n := 20) rfl (Sat.whole S12 20) HL20.out Try.underlying28 rfl Try.sizeS ?_)
          | (go_at_call 50; refine (r1End_any H5 (S12.sel [1])).mono ?_; rintro e w' ⟨rfl, rfl⟩; rw [HE.out])
          | (go_at_call 49; refine (r1Byte_any (hK _ _) H4 hno S10b).mono ?_; unfold Given; rintro e w11 ⟨a5, n5, c5, H5, rfl, S11⟩; rw [HN2.out] at H5 S11 ⊢; have hA := st_at (s := ⟨fr, cells, le dl, ob, 0⟩) HCL.out (S11.sel [1]); have c19 := hA.winner; have f19 := hA.free 19; clear hA; have S12 := st_wn (s := ⟨fr, cells, le dl, ob, 0⟩) HCL.out (S11.sel [1]) (le nl))
          | (go_at_call 49; refine (r1Byte_any (hK _ _) H3 hnd S9).mono ?_; unfold Given; rintro e w10 ⟨a4, n4, c4, H4, rfl, S10⟩; rw [HO.out] at H4 S10 ⊢; have hA := st_at (s := ⟨fr, cells, le dl, false, 0⟩) HCL.out (S10.sel [1]); have c18 := hA.over; have f18 := hA.free 18; clear hA; have S10b := (dec_over (s := ⟨fr, cells, le dl, false, 0⟩) HCL.out (S10.sel [1]) ob).sel [1])
          | (go_at_call 48; refine (r1Four_any (hK _ _) H2 hnc (S7.sel [1])).mono ?_; unfold Given; rintro e w8 ⟨a3, n3, c3, H3, rfl, S8⟩; rw [HD.out] at H3 S8 ⊢; have hA := st_at (s := ⟨fr, cells, 0, false, 0⟩) HCL.out (S8.sel [1]); have c17 := hA.seed; have f17 := hA.free 17; clear hA; have S9 := (dec_seed HCL.out (S8.sel [1]) (le dl)).sel [1]))
          refine bodyPost_ret (results_cell_tmp_sat rfl _ S14 rfl Try.underlying28 rfl (by rw [HL20.out]; exact Try.sizeS) rfl) rfl ⟨?_, Sat.tail (Sat.tail (Sat.tail S14))⟩
          rw [HRES.out]; rfl
    · have hz : (ee == 0) = false := by simpa using hee
      have hz2 : (ee != 0) = true := by simpa using hee
      have hq : (if ee = 0 ∧ (1 < le ol ∨ isP ⟨fr, cells, le dl, ob, le nl⟩ = false) then 3 else ee) = ee := if_neg (fun h => hee h.1)
      have hres : decP bs = (VS.zero, ee) := by rw [HDEC.out, hq, if_pos hee]
      clear hq
      have HRES := Lib.hid hres
      clear hee hres
      go_wp2_with (first
      | (refine wpList_store_sat (off := 0) (n := 20) rfl 28 _ _ rfl (S12.sel [2]) rfl rfl rfl (by decide) Try.sizeS zero_one ?_; intro w14 S14)
      | (go_at_call 35; refine (r10is_any S12 HCL.out).mono ?_; rintro e w13 ⟨rfl, S13⟩; rw [HI.out])
      | (refine wpList_load_guard rfl 28 _ rfl (n := 20) rfl (Sat.whole S12 20) HL20.out Try.underlying28 rfl Try.sizeS ?_)
      | (go_at_call 50; refine (r1End_any H5 (S12.sel [1])).mono ?_; rintro e w' ⟨rfl, rfl⟩; rw [HE.out])
      | (go_at_call 49; refine (r1Byte_any (hK _ _) H4 hno S10b).mono ?_; unfold Given; rintro e w11 ⟨a5, n5, c5, H5, rfl, S11⟩; rw [HN2.out] at H5 S11 ⊢; have hA := st_at (s := ⟨fr, cells, le dl, ob, 0⟩) HCL.out (S11.sel [1]); have c19 := hA.winner; have f19 := hA.free 19; clear hA; have S12 := st_wn (s := ⟨fr, cells, le dl, ob, 0⟩) HCL.out (S11.sel [1]) (le nl))
      | (go_at_call 49; refine (r1Byte_any (hK _ _) H3 hnd S9).mono ?_; unfold Given; rintro e w10 ⟨a4, n4, c4, H4, rfl, S10⟩; rw [HO.out] at H4 S10 ⊢; have hA := st_at (s := ⟨fr, cells, le dl, false, 0⟩) HCL.out (S10.sel [1]); have c18 := hA.over; have f18 := hA.free 18; clear hA; have S10b := (dec_over (s := ⟨fr, cells, le dl, false, 0⟩) HCL.out (S10.sel [1]) ob).sel [1])
      | (go_at_call 48; refine (r1Four_any (hK _ _) H2 hnc (S7.sel [1])).mono ?_; unfold Given; rintro e w8 ⟨a3, n3, c3, H3, rfl, S8⟩; rw [HD.out] at H3 S8 ⊢; have hA := st_at (s := ⟨fr, cells, 0, false, 0⟩) HCL.out (S8.sel [1]); have c17 := hA.seed; have f17 := hA.free 17; clear hA; have S9 := (dec_seed HCL.out (S8.sel [1]) (le dl)).sel [1]))
      refine bodyPost_ret (results_cell_tmp_sat rfl _ S14 rfl Try.underlying28 rfl Try.sizeS rfl) rfl ⟨?_, Sat.tail (Sat.tail (Sat.tail S14))⟩
      rw [HRES.out]; rfl
end Go.Proofs.Ytlkmkclohkbjeaa
