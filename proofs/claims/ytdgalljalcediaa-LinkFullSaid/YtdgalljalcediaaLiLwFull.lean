/-
  The law LinkFull, walked.
-/
import Derived.Test.YtdgalljalcediaaLiLwTicks
import Derived.Test.YtdgalljalcediaaSeg
namespace Go.Proofs.Ytdgalljalcediaa
open Go.RowKit Go.Sep Go.Oct
set_option linter.unusedSimpArgs false

theorem madeB (n : Nat) : madeCells (Value.int .u8 0).cells n = (bv (List.replicate n 0)).toArray := by
  apply Array.ext
  · simp [madeCells, bv]
  · intro i h1 h2
    simp [madeCells, Value.cells, bv, Nat.mod_one]
theorem mkB (w : World) (n : Nat) (hn : n ≤ 100000) : (Instr.makeSlice 29 (.int .i64 n) (.int .i64 n)).run Try.prog w = .ok (.slice (some ⟨w.heap.size, 0, none⟩) n n) (w.alloc (.cells (bv (List.replicate n 0)).toArray 5)) := by
  obtain ⟨i0, hi, hz0, hz1, hz2⟩ := info_parts Try.infoB
  have h := run_make (P := Try.prog) w 29 5 i0 (.int .u8 0) Try.underlying29 hi hz0 .i64 .i64 (n : Int) (n : Int) (by omega) (by omega) (by rw [hz2]; omega) (by omega)
  rw [h, hz1, Int.toNat_natCast, Nat.mul_one, madeB]
def rsF (n : Nat) : List (List Int) := List.replicate n []
theorem rsF_row {n : Nat} : ∀ r ∈ rsF n, Bytes r ∧ r.length ≤ 4096 := by
  intro r hr
  rw [List.eq_of_mem_replicate hr]
  exact ⟨fun x hx => by simp at hx, by simp⟩
theorem rsF_succ (n : Nat) : rsF n ++ [[]] = rsF (n + 1) := by unfold rsF; rw [List.replicate_succ']

set_option maxRecDepth 100000 in
set_option maxHeartbeats 6400000 in
theorem LinkFull_walk {w : World} {x : Int} (hx : I64 x) :
    Calls Try.prog 4 #[.int .i64 x] w fun e w' => e = .returned (.bool true) ∧ Below w.heap.size w w' := by
  have S0 := Sat.start w
  by_cases b0 : x < 0
  · have b0' : decide (x < 0) = true := decide_eq_true b0
    clear b0
    go_enter Try.func4, Try.ntmps4
    go_wp2_with (first | (go_at_call 12; refine (known_any S0).mono ?_; rintro e w8 ⟨rfl, S8⟩))
    go_ret
    exact ⟨rfl, S8.below⟩
  have b0' : decide (x < 0) = false := decide_eq_false b0
  by_cases b1 : 20 < x
  · have b1' : decide (20 < x) = true := decide_eq_true b1
    clear b0 b1
    go_enter Try.func4, Try.ntmps4
    go_wp2_with (first | (go_at_call 12; refine (known_any S0).mono ?_; rintro e w8 ⟨rfl, S8⟩))
    go_ret
    exact ⟨rfl, S8.below⟩
  have b1' : decide (20 < x) = false := decide_eq_false b1
  obtain ⟨r, rfl⟩ : ∃ n : Nat, x = n := ⟨x.toNat, by omega⟩
  have hr20 : r ≤ 20 := by omega
  have hI1 : I64 1 := by unfold I64; omega
  have HI1 := Lib.hid hI1
  have hw1000 : IntKind.i64.wrap (1000 + (r : Int)) = 1000 + (r : Int) := by rw [IntKind.wrap_i64]; omega
  obtain ⟨ml, hml⟩ : ∃ ml, 4096 + r = ml := ⟨_, rfl⟩
  have hwm : IntKind.i64.wrap (4096 + (r : Int)) = (ml : Int) := by rw [IntKind.wrap_i64]; omega
  have HML := Lib.hid hml
  have hpb : Bytes (List.replicate ml (0 : Int)) := fun x hx => by rw [List.eq_of_mem_replicate hx]; omega
  have HBIG := Lib.hid (fun (w' : World) (L : List Asn) (g : Nat) (a : Option Addr) (h : Sat w w' (PL g (LS.new 1) :: L)) (hR : Rd w' a (bv (List.replicate ml 0))) (h0 : a = none → ml = 0) => send_any (m := ml) (c := ml) h (LS.new_ok HI1.out) (by omega) hR (by simp) h0 hpb (by omega))
  obtain ⟨wn, hwn⟩ : ∃ wn : Int, (if 0 < r then 5 else 0) = wn := ⟨_, rfl⟩
  have hE : (sendP (LS.new 1) (List.replicate ml 0)).2.1 = wn := by
    rw [← hwn]
    by_cases h0 : 0 < r
    · rw [if_pos h0]
      unfold sendP
      rw [if_pos (by rw [List.length_replicate]; omega)]
    · rw [if_neg h0]
      exact (send_PS (id := 1) (rs := []) (p := List.replicate ml 0) (by rw [List.length_replicate]; omega) (by simp)).2.1
  have hwe : (wn == wn) = true := by simp
  have HWN := Lib.hid hwn
  generalize sendP (LS.new 1) (List.replicate ml 0) = R at HBIG hE
  have HE := Lib.hid hE
  have HMK := Lib.hid (fun (w : World) => mkB w ml (by omega))
  clear hml hI1 hx b0 b1 hpb hE hwn
  go_enter Try.func4, Try.ntmps4
  go_wp2_with (first
    | (go_at_call 13; refine (new_any S0 1).mono ?_; rintro e w1 ⟨g, rfl, S1⟩))
  clear b0' b1'
  go_loopw [4] (fun i wr => ∃ k : Nat, k ≤ 1000 + r ∧ i = .int .i64 k ∧ Sat w wr (PL g (PS 1 (rsF (min k 1000))) :: [])) (fun i _ => 1000 + r - (intOf i).toNat)
  case atStart => exact ⟨0, by omega, rfl, S1⟩
  case round =>
    clear S1
    obtain ⟨k, hk, rfl, S2⟩ := hrel
    by_cases hlt : k < 1000 + r
    · have hd : decide ((k : Int) < 1000 + (r : Int)) = true := decide_eq_true (by omega)
      have hw : IntKind.i64.wrap ((k : Int) + 1) = (k : Int) + 1 := by rw [IntKind.wrap_i64]; omega
      by_cases h10 : k < 1000
      · have hd2 : decide ((k : Int) < 1000) = true := decide_eq_true (by omega)
        have S3 : Sat w wr (PL g (PS 1 (rsF k)) :: []) := by rw [show k = min k 1000 by omega]; exact S2
        clear S2
        go_wp2_with (first
          | (go_at_call 14; refine (send_n (p := []) S3 HI1.out (by unfold rsF; rw [List.length_replicate]; omega) rsF_row (Rd.nil _ _) rfl (fun _ => rfl) (fun x hx => by simp at hx) (by simp)).mono ?_; unfold SentN; rintro e w4 ⟨oa, oc, ou, rfl, S4⟩; rw [rsF_succ] at S4))
        refine ⟨⟨k + 1, by omega, by go_num, ?_⟩, by simp [intOf]; omega⟩
        rw [show min (k + 1) 1000 = k + 1 by omega]
        exact Sat.one S4.swap
      · have hd2 : decide ((k : Int) < 1000) = false := decide_eq_false (by omega)
        have S3 : Sat w wr (PL g (PS 1 (rsF 1000)) :: []) := by rw [show 1000 = min k 1000 by omega]; exact S2
        clear S2
        have HSF := Lib.hid (show Calls Try.prog 14 #[.pointer (some ⟨g, 0, none⟩), .slice none 0 0] wr (Sent w [] g ([], 6, PS 1 (rsF 1000))) by
          have := send_any S3 (PS_ok HI1.out (by unfold rsF; rw [List.length_replicate]; omega) rsF_row) (by omega) (p := []) (c := 0) (Rd.nil _ none) rfl (fun _ => rfl) (fun x hx => by simp at hx) (by simp)
          rw [send_full (by simp) (by unfold rsF; rw [List.length_replicate]; omega)] at this
          exact this)
        go_wp2_with (first
          | (go_at_call 14; refine HSF.out.mono ?_; unfold Sent; rintro e w4 ⟨oa, oc, rfl, S4⟩; dsimp only at S4))
        refine ⟨⟨k + 1, by omega, by go_num, ?_⟩, by simp [intOf]; omega⟩
        rw [show min (k + 1) 1000 = 1000 by omega]
        exact Sat.one S4.swap
    · have hd : decide ((k : Int) < 1000 + (r : Int)) = false := decide_eq_false (by omega)
      have S3 : Sat w wr (PL g (PS 1 (rsF 1000)) :: []) := by rw [show 1000 = min k 1000 by omega]; exact S2
      have S4 := S3.drew
      clear S2 S3 hlt hk
      go_wp2_with fail
      refine wp_region_drawn (N := 10) (LN := #[false, false, false, false, false, false, false, false, false, false]) (by kernel_rfl) (by kernel_rfl) (by kernel_rfl) ?_
      generalize wr.drew = w5 at S4 ⊢
      refine wpAny_loc (i := 1) (v := ?_) (LN := #[false, true, false, false, false, false, false, false, false, false]) rfl (by kernel_rfl) (by kernel_rfl) (by kernel_rfl) (fun _ _ _ h => h) (by kernel_rfl) (by rfl) ?_ ?_
      rotate_left
      · intro w; first | (go_simp; done) | (go_simp; with_reducible rfl)
      try simp only [Act.put, List.getElem_toArray, List.getElem_cons_zero, List.getElem_cons_succ, List.setIfInBounds_toArray, List.set_cons_zero, List.set_cons_succ]
      refine wpAny_loc (i := 2) (v := ?_) (LN := #[false, true, true, false, false, false, false, false, false, false]) rfl (by kernel_rfl) (by kernel_rfl) (by kernel_rfl) (fun _ _ _ h => h) (by kernel_rfl) (by rfl) ?_ ?_
      rotate_left
      · intro w; first | (go_simp; done) | (go_simp; with_reducible rfl)
      try simp only [Act.put, List.getElem_toArray, List.getElem_cons_zero, List.getElem_cons_succ, List.setIfInBounds_toArray, List.set_cons_zero, List.set_cons_succ]
      refine wpAny_two (i := 0) (j := 3) (Li := #[true, true, true, false, false, false, false, false, false, false]) (Lj := #[false, true, true, true, false, false, false, false, false, false]) (by kernel_rfl) rfl rfl (by kernel_rfl) (by kernel_rfl) ?_ ?_
      · intro K hK
        go_simp
        go_at_call 13
        refine (new_any S4 1).mono ?_
        rintro e w6 ⟨g2, rfl, Sc1⟩
        go_wp2_with fail
        refine hK.out _ _ ?_
        clear hK K
        try simp only [Act.put, List.getElem_toArray, List.getElem_cons_zero, List.getElem_cons_succ, List.setIfInBounds_toArray, List.set_cons_zero, List.set_cons_succ]
        refine wpAny_one (i := 3) (LN := #[true, true, true, true, false, false, false, false, false, false]) (by kernel_rfl) rfl (by kernel_rfl) ?_
        intro K hK
        have hmk := HMK.out
        go_simp
        have Sc2 := Sc1.alloc (bv (List.replicate ml 0)) 5
        refine hK.out _ _ ?_
        clear hK K
        try simp only [Act.put, List.getElem_toArray, List.getElem_cons_zero, List.getElem_cons_succ, List.setIfInBounds_toArray, List.set_cons_zero, List.set_cons_succ]
        refine wpAny_one (i := 4) (LN := #[true, true, true, true, true, false, false, false, false, false]) (by kernel_rfl) rfl (by kernel_rfl) ?_
        intro K hK
        go_simp
        go_at_call 14
        first
          | refine (HBIG.out _ _ _ _ Sc2 (Rd.lit (Sc2.block 1 rfl).1) (fun h => nomatch h)).mono ?_
          | refine (HBIG.out _ _ _ _ Sc2.swap (Rd.lit (Sc2.block 0 rfl).1) (fun h => nomatch h)).mono ?_
        unfold Sent
        rw [HE.out]
        rintro e w7 ⟨oa, oc, rfl, S7⟩
        go_wp2_with fail
        refine hK.out _ _ ?_
        clear hK K
        try simp only [Act.put, List.getElem_toArray, List.getElem_cons_zero, List.getElem_cons_succ, List.setIfInBounds_toArray, List.set_cons_zero, List.set_cons_succ]
        refine wpAny_loc (i := 5) (v := ?_) (LN := #[true, true, true, true, true, true, false, false, false, false]) rfl (by kernel_rfl) (by kernel_rfl) (by kernel_rfl) (fun _ _ _ h => h) (by kernel_rfl) (by rfl) ?_ ?_
        rotate_left
        · intro w; first | (go_simp; done) | (go_simp; with_reducible rfl)
        try simp only [Act.put, List.getElem_toArray, List.getElem_cons_zero, List.getElem_cons_succ, List.setIfInBounds_toArray, List.set_cons_zero, List.set_cons_succ]
        refine wpAny_loc (i := 6) (v := ?_) (LN := #[true, true, true, true, true, true, true, false, false, false]) rfl (by kernel_rfl) (by kernel_rfl) (by kernel_rfl) (fun _ _ _ h => h) (by kernel_rfl) (by rfl) ?_ ?_
        rotate_left
        · intro w; first | (go_simp; done) | (go_simp; with_reducible rfl)
        try simp only [Act.put, List.getElem_toArray, List.getElem_cons_zero, List.getElem_cons_succ, List.setIfInBounds_toArray, List.set_cons_zero, List.set_cons_succ]
        refine wpAny_loc (i := 7) (v := ?_) (LN := #[true, true, true, true, true, true, true, true, false, false]) rfl (by kernel_rfl) (by kernel_rfl) (by kernel_rfl) (fun _ _ _ h => h) (by kernel_rfl) (by rfl) ?_ ?_
        rotate_left
        · intro w; first | (go_simp; done) | (go_simp; with_reducible rfl)
        try simp only [Act.put, List.getElem_toArray, List.getElem_cons_zero, List.getElem_cons_succ, List.setIfInBounds_toArray, List.set_cons_zero, List.set_cons_succ]
        refine wpAny_loc (i := 8) (v := ?_) (LN := #[true, true, true, true, true, true, true, true, true, false]) rfl (by kernel_rfl) (by kernel_rfl) (by kernel_rfl) (fun _ _ _ h => h) (by kernel_rfl) (by rfl) ?_ ?_
        rotate_left
        · intro w; first | (go_simp; done) | (go_simp; with_reducible rfl)
        try simp only [Act.put, List.getElem_toArray, List.getElem_cons_zero, List.getElem_cons_succ, List.setIfInBounds_toArray, List.set_cons_zero, List.set_cons_succ]
        refine wpAny_loc (i := 9) (v := ?_) (LN := #[true, true, true, true, true, true, true, true, true, true]) rfl (by kernel_rfl) (by kernel_rfl) (by kernel_rfl) (fun _ _ _ h => h) (by kernel_rfl) (by rfl) ?_ ?_
        rotate_left
        · intro w; first | (go_simp; done) | (go_simp; with_reducible rfl)
        try simp only [Act.put, List.getElem_toArray, List.getElem_cons_zero, List.getElem_cons_succ, List.setIfInBounds_toArray, List.set_cons_zero, List.set_cons_succ]
        refine ⟨by kernel_rfl, ?_⟩
        try simp only [Act.put, List.getElem_toArray, List.getElem_cons_zero, List.getElem_cons_succ, List.setIfInBounds_toArray, List.set_cons_zero, List.set_cons_succ]
        have hk1 : (((rsF 1000).length : Nat) : Int) = 1000 := by unfold rsF; rw [List.length_replicate]; rfl
        have S8 := S7.sel [3]
        have HL := Lib.hid (left_any S8)
        have hPSr : (PS 1 (rsF 1000)).rows = rsF 1000 := rfl
        rw [hPSr, hk1] at HL
        clear S7
        by_cases h0 : 0 < r
        · have hd3 : decide ((0 : Int) < (r : Int)) = true := decide_eq_true (by omega)
          have hw5 : wn = 5 := by rw [← HWN.out, if_pos h0]
          subst hw5
          go_wp2_with (first
            | (go_at_call 16; refine HL.out.mono ?_; rintro e w8 ⟨rfl, S9⟩)
            | (go_at_call 12; refine (known_any S9).mono ?_; rintro e w9 ⟨rfl, S10⟩))
          go_ret
          exact ⟨rfl, S10.below⟩
        · have hd3 : decide ((0 : Int) < (r : Int)) = false := decide_eq_false (by omega)
          have hw5 : wn = 0 := by rw [← HWN.out, if_neg h0]
          subst hw5
          go_wp2_with (first
            | (go_at_call 16; refine HL.out.mono ?_; rintro e w8 ⟨rfl, S9⟩)
            | (go_at_call 12; refine (known_any S9).mono ?_; rintro e w9 ⟨rfl, S10⟩))
          go_ret
          exact ⟨rfl, S10.below⟩
      · intro K hK
        have hmk := HMK.out
        go_simp
        have Sc1 := S4.alloc (bv (List.replicate ml 0)) 5
        refine hK.out _ _ ?_
        clear hK K
        try simp only [Act.put, List.getElem_toArray, List.getElem_cons_zero, List.getElem_cons_succ, List.setIfInBounds_toArray, List.set_cons_zero, List.set_cons_succ]
        refine wpAny_one (i := 0) (LN := #[true, true, true, true, false, false, false, false, false, false]) (by kernel_rfl) rfl (by kernel_rfl) ?_
        intro K hK
        go_simp
        go_at_call 13
        refine (new_any Sc1 1).mono ?_
        rintro e w6 ⟨g2, rfl, Sc2⟩
        go_wp2_with fail
        refine hK.out _ _ ?_
        clear hK K
        try simp only [Act.put, List.getElem_toArray, List.getElem_cons_zero, List.getElem_cons_succ, List.setIfInBounds_toArray, List.set_cons_zero, List.set_cons_succ]
        refine wpAny_one (i := 4) (LN := #[true, true, true, true, true, false, false, false, false, false]) (by kernel_rfl) rfl (by kernel_rfl) ?_
        intro K hK
        go_simp
        go_at_call 14
        first
          | refine (HBIG.out _ _ _ _ Sc2 (Rd.lit (Sc2.block 1 rfl).1) (fun h => nomatch h)).mono ?_
          | refine (HBIG.out _ _ _ _ Sc2.swap (Rd.lit (Sc2.block 0 rfl).1) (fun h => nomatch h)).mono ?_
        unfold Sent
        rw [HE.out]
        rintro e w7 ⟨oa, oc, rfl, S7⟩
        go_wp2_with fail
        refine hK.out _ _ ?_
        clear hK K
        try simp only [Act.put, List.getElem_toArray, List.getElem_cons_zero, List.getElem_cons_succ, List.setIfInBounds_toArray, List.set_cons_zero, List.set_cons_succ]
        refine wpAny_loc (i := 5) (v := ?_) (LN := #[true, true, true, true, true, true, false, false, false, false]) rfl (by kernel_rfl) (by kernel_rfl) (by kernel_rfl) (fun _ _ _ h => h) (by kernel_rfl) (by rfl) ?_ ?_
        rotate_left
        · intro w; first | (go_simp; done) | (go_simp; with_reducible rfl)
        try simp only [Act.put, List.getElem_toArray, List.getElem_cons_zero, List.getElem_cons_succ, List.setIfInBounds_toArray, List.set_cons_zero, List.set_cons_succ]
        refine wpAny_loc (i := 6) (v := ?_) (LN := #[true, true, true, true, true, true, true, false, false, false]) rfl (by kernel_rfl) (by kernel_rfl) (by kernel_rfl) (fun _ _ _ h => h) (by kernel_rfl) (by rfl) ?_ ?_
        rotate_left
        · intro w; first | (go_simp; done) | (go_simp; with_reducible rfl)
        try simp only [Act.put, List.getElem_toArray, List.getElem_cons_zero, List.getElem_cons_succ, List.setIfInBounds_toArray, List.set_cons_zero, List.set_cons_succ]
        refine wpAny_loc (i := 7) (v := ?_) (LN := #[true, true, true, true, true, true, true, true, false, false]) rfl (by kernel_rfl) (by kernel_rfl) (by kernel_rfl) (fun _ _ _ h => h) (by kernel_rfl) (by rfl) ?_ ?_
        rotate_left
        · intro w; first | (go_simp; done) | (go_simp; with_reducible rfl)
        try simp only [Act.put, List.getElem_toArray, List.getElem_cons_zero, List.getElem_cons_succ, List.setIfInBounds_toArray, List.set_cons_zero, List.set_cons_succ]
        refine wpAny_loc (i := 8) (v := ?_) (LN := #[true, true, true, true, true, true, true, true, true, false]) rfl (by kernel_rfl) (by kernel_rfl) (by kernel_rfl) (fun _ _ _ h => h) (by kernel_rfl) (by rfl) ?_ ?_
        rotate_left
        · intro w; first | (go_simp; done) | (go_simp; with_reducible rfl)
        try simp only [Act.put, List.getElem_toArray, List.getElem_cons_zero, List.getElem_cons_succ, List.setIfInBounds_toArray, List.set_cons_zero, List.set_cons_succ]
        refine wpAny_loc (i := 9) (v := ?_) (LN := #[true, true, true, true, true, true, true, true, true, true]) rfl (by kernel_rfl) (by kernel_rfl) (by kernel_rfl) (fun _ _ _ h => h) (by kernel_rfl) (by rfl) ?_ ?_
        rotate_left
        · intro w; first | (go_simp; done) | (go_simp; with_reducible rfl)
        try simp only [Act.put, List.getElem_toArray, List.getElem_cons_zero, List.getElem_cons_succ, List.setIfInBounds_toArray, List.set_cons_zero, List.set_cons_succ]
        refine ⟨by kernel_rfl, ?_⟩
        try simp only [Act.put, List.getElem_toArray, List.getElem_cons_zero, List.getElem_cons_succ, List.setIfInBounds_toArray, List.set_cons_zero, List.set_cons_succ]
        have hk1 : (((rsF 1000).length : Nat) : Int) = 1000 := by unfold rsF; rw [List.length_replicate]; rfl
        have S8 := S7.sel [3]
        have HL := Lib.hid (left_any S8)
        have hPSr : (PS 1 (rsF 1000)).rows = rsF 1000 := rfl
        rw [hPSr, hk1] at HL
        clear S7
        by_cases h0 : 0 < r
        · have hd3 : decide ((0 : Int) < (r : Int)) = true := decide_eq_true (by omega)
          have hw5 : wn = 5 := by rw [← HWN.out, if_pos h0]
          subst hw5
          go_wp2_with (first
            | (go_at_call 16; refine HL.out.mono ?_; rintro e w8 ⟨rfl, S9⟩)
            | (go_at_call 12; refine (known_any S9).mono ?_; rintro e w9 ⟨rfl, S10⟩))
          go_ret
          exact ⟨rfl, S10.below⟩
        · have hd3 : decide ((0 : Int) < (r : Int)) = false := decide_eq_false (by omega)
          have hw5 : wn = 0 := by rw [← HWN.out, if_neg h0]
          subst hw5
          go_wp2_with (first
            | (go_at_call 16; refine HL.out.mono ?_; rintro e w8 ⟨rfl, S9⟩)
            | (go_at_call 12; refine (known_any S9).mono ?_; rintro e w9 ⟨rfl, S10⟩))
          go_ret
          exact ⟨rfl, S10.below⟩
end Go.Proofs.Ytdgalljalcediaa
