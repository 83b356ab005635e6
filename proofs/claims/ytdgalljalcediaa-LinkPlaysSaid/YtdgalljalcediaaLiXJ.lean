/-
  LiD3, LiD4, LiB3, LiB4, LiG, LiF, LiX1, LiX2 in one text (wip/tools/joint.py)
-/
import Derived.Test.YtdgalljalcediaaLiD2
import Derived.Test.YtdgalljalcediaaLi5
import Derived.Test.YtdgalljalcediaaLiB2
import Derived.Test.YtdgalljalcediaaLiV
import Derived.Test.YtdgalljalcediaaLiI
import Derived.Test.YtdgalljalcediaaLi4

section
namespace Go.Proofs.Ytdgalljalcediaa
open Go.RowKit Go.Sep Go.Oct
set_option linter.unusedSimpArgs false

def SentD (W0 : World) (L : List Asn) (g : Nat) (r : List (List Int) × Int × LS) (e : Ending) (w' : World) : Prop :=
  ∃ ao cap, e = .returned (.tuple #[.slice ao r.1.length cap, .int .i64 r.2.1]) ∧ Sat W0 w' (brs ao r.1.length cap r.1 :: DL g r.2.2 :: L)

set_option maxRecDepth 100000 in
set_option maxHeartbeats 6400000 in
theorem r16send_any {W0 w : World} {L : List Asn} {g : Nat} {s : LS} {N : Int} (S : Sat W0 w (DL g s :: L)) (ok : s.Ok N) (hN : N ≤ 1000000000000) {a : Option Addr} {m c : Nat} {p : List Int} (hR : ∀ w', Sat W0 w' L → Rd w' a (bv p)) (hm : p.length = m) (hB : Bytes p) (hb : m ≤ 1000000000) :
    Calls Try.prog 39 #[.pointer (some ⟨g, 0, none⟩), .slice a m c] w (SentD W0 L g (sendP s p)) := by
  have HM := Lib.hid hm
  by_cases h1 : 4096 < m
  · have hP : sendP s p = ([], 5, s) := by unfold sendP; rw [if_pos (by omega)]
    rw [hP]
    have hd : decide ((4096 : Int) < (m : Int)) = true := decide_eq_true (by omega)
    clear hm
    go_enter Try.func39, Try.ntmps39
    go_wp2_with fail
    go_ret2
    exact ⟨none, 0, rfl, brs_none S⟩
  have hd : decide ((4096 : Int) < (m : Int)) = false := decide_eq_false (by omega)
  obtain ⟨ra, rc, S0⟩ := DL_open.1 S
  by_cases h2 : 1000 ≤ s.rows.length
  · have hP : sendP s p = ([], 6, s) := by unfold sendP; rw [if_neg (by omega), if_pos h2]
    rw [hP]
    have hd2 : decide ((1000 : Int) ≤ ((s.rows.length : Nat) : Int)) = true := decide_eq_true (by omega)
    have c1 := S0.cell 0 rfl 1
    simp only [List.getElem?_cons_zero, List.getElem?_cons_succ] at c1
    clear hm
    go_enter Try.func39, Try.ntmps39
    go_wp2_with fail
    go_ret2
    exact ⟨none, 0, rfl, brs_none S⟩
  have hd2 : decide ((1000 : Int) ≤ ((s.rows.length : Nat) : Int)) = false := decide_eq_false (by omega)
  have hP : sendP s p = ((fillP { s with rows := s.rows ++ [p] }).1, 0, (fillP { s with rows := s.rows ++ [p] }).2) := by unfold sendP; rw [if_neg (by omega), if_neg h2]
  rw [hP]
  have OK1 := Lib.hid (ok.push hB (by omega) (by omega))
  obtain ⟨hs, -, hl, S1⟩ := brs_out S0.swap
  have S2 := S1.sel [2]
  have c1 := S2.cell 0 rfl 1
  simp only [List.getElem?_cons_zero, List.getElem?_cons_succ] at c1
  obtain ⟨i0, hi, hz0, hz1, hz2⟩ := info_parts Try.infoR
  obtain ⟨j0, hj, jz0, jz1, jz2⟩ := info_parts Try.infoB
  have hlen := (S1.own_len)
  have HRM := Lib.hid hR
  clear hm hP S S0 hR
  go_enter Try.func39, Try.ntmps39
  go_wp2_with fail
  have S3 := S2.drew
  clear S1 S2 c1
  refine wp_region_drawn (N := 13) (LN := #[false, false, false, false, false, false, false, false, false, false, false, false, false]) (by kernel_rfl) (by kernel_rfl) (by kernel_rfl) ?_
  generalize w.drew = w3 at S3 ⊢
  refine wpAny_loc (i := 0) (v := ?_) (LN := #[true, false, false, false, false, false, false, false, false, false, false, false, false]) rfl (by kernel_rfl) (by kernel_rfl) (by kernel_rfl) (fun _ _ _ h => h) (by kernel_rfl) (by rfl) ?_ ?_
  rotate_left
  · intro w; first | (go_simp; done) | (go_simp; with_reducible rfl)
  try simp only [Act.put, List.getElem_toArray, List.getElem_cons_zero, List.getElem_cons_succ, List.setIfInBounds_toArray, List.set_cons_zero, List.set_cons_succ]
  refine wpAny_loc (i := 1) (v := ?_) (LN := #[true, true, false, false, false, false, false, false, false, false, false, false, false]) rfl (by kernel_rfl) (by kernel_rfl) (by kernel_rfl) (fun _ _ _ h => h) (by kernel_rfl) (by rfl) ?_ ?_
  rotate_left
  · intro w; first | (go_simp; done) | (go_simp; with_reducible rfl)
  try simp only [Act.put, List.getElem_toArray, List.getElem_cons_zero, List.getElem_cons_succ, List.setIfInBounds_toArray, List.set_cons_zero, List.set_cons_succ]
  refine wpAny_loc (i := 2) (v := ?_) (LN := #[true, true, true, false, false, false, false, false, false, false, false, false, false]) rfl (by kernel_rfl) (by kernel_rfl) (by kernel_rfl) (fun _ _ _ h => h) (by kernel_rfl) (by rfl) ?_ ?_
  rotate_left
  · intro w; first | (go_simp; done) | (go_simp; with_reducible rfl)
  try simp only [Act.put, List.getElem_toArray, List.getElem_cons_zero, List.getElem_cons_succ, List.setIfInBounds_toArray, List.set_cons_zero, List.set_cons_succ]
  refine wpAny_loc (i := 3) (v := ?_) (LN := #[true, true, true, true, false, false, false, false, false, false, false, false, false]) rfl (by kernel_rfl) (by kernel_rfl) (by kernel_rfl) (fun _ _ _ h => h) (by kernel_rfl) (by rfl) ?_ ?_
  rotate_left
  · intro w; first | (go_simp; done) | (go_simp; with_reducible rfl)
  try simp only [Act.put, List.getElem_toArray, List.getElem_cons_zero, List.getElem_cons_succ, List.setIfInBounds_toArray, List.set_cons_zero, List.set_cons_succ]
  refine wpAny_loc (i := 6) (v := ?_) (LN := #[true, true, true, true, false, false, true, false, false, false, false, false, false]) rfl (by kernel_rfl) (by kernel_rfl) (by kernel_rfl) (fun _ _ _ h => h) (by kernel_rfl) (by rfl) ?_ ?_
  rotate_left
  · intro w; first | (go_simp; done) | (go_simp; with_reducible rfl)
  try simp only [Act.put, List.getElem_toArray, List.getElem_cons_zero, List.getElem_cons_succ, List.setIfInBounds_toArray, List.set_cons_zero, List.set_cons_succ]
  refine wpAny_two (i := 4) (j := 5) (Li := #[true, true, true, true, true, false, true, false, false, false, false, false, false]) (Lj := #[true, true, true, true, false, true, true, false, false, false, false, false, false]) (by kernel_rfl) rfl rfl (by kernel_rfl) (by kernel_rfl) ?_ ?_
  · intro K hK
    have cc := S3.cell 0 rfl 1
    simp only [List.getElem?_cons_zero, List.getElem?_cons_succ] at cc
    go_simp
    have Sc1 := S3
    clear cc
    refine hK.out _ _ ?_
    clear hK K
    try simp only [Act.put, List.getElem_toArray, List.getElem_cons_zero, List.getElem_cons_succ, List.setIfInBounds_toArray, List.set_cons_zero, List.set_cons_succ]
    refine wpAny_one (i := 5) (LN := #[true, true, true, true, true, true, true, false, false, false, false, false, false]) (by kernel_rfl) rfl (by kernel_rfl) ?_
    intro K hK
    go_simp
    have Sc2 := Sat.own_new (n := 0) (cap := 0) (size := 1) (xs := []) (post := []) (Sc1.alloc [] 5) rfl (Nat.le_refl _) (by unfold maxLen; omega) (by simp)
    refine hK.out _ _ ?_
    clear hK K
    try simp only [Act.put, List.getElem_toArray, List.getElem_cons_zero, List.getElem_cons_succ, List.setIfInBounds_toArray, List.set_cons_zero, List.set_cons_succ]
    refine wpAny_one (i := 7) (LN := #[true, true, true, true, true, true, true, true, false, false, false, false, false]) (by kernel_rfl) rfl (by kernel_rfl) ?_
    intro K hK
    refine step_append_sat rfl _ _ _ rfl 5 j0 (.int .u8 0) 1 1 Try.underlying29 hj jz0 jz1 jz2 rfl (by decide) Sc2 rfl rfl (HRM.out _ Sc2.tail.tail.tail.tail) (by rw [bv_length, HM.out, Nat.mul_one]) (bv_one _) (by unfold maxLen; omega) (by omega) ?_
    intro pa pc w6 Sc3
    rw [Nat.zero_add] at Sc3 ⊢
    refine hK.out _ _ ?_
    clear hK K
    try simp only [Act.put, List.getElem_toArray, List.getElem_cons_zero, List.getElem_cons_succ, List.setIfInBounds_toArray, List.set_cons_zero, List.set_cons_succ]
    refine wpAny_one (i := 8) (LN := #[true, true, true, true, true, true, true, true, true, false, false, false, false]) (by kernel_rfl) rfl (by kernel_rfl) ?_
    intro K hK
    go_simp
    have Sc4 := Sc3.alloc [.slice pa m pc] 29
    refine hK.out _ _ ?_
    clear hK K
    try simp only [Act.put, List.getElem_toArray, List.getElem_cons_zero, List.getElem_cons_succ, List.setIfInBounds_toArray, List.set_cons_zero, List.set_cons_succ]
    refine wpAny_one (i := 9) (LN := #[true, true, true, true, true, true, true, true, true, true, false, false, false]) (by kernel_rfl) rfl (by kernel_rfl) ?_
    intro K hK
    refine step_append_sat rfl _ _ _ rfl 29 i0 _ 1 24 Try.underlying25 hi hz0 hz1 hz2 rfl (by decide) (Sc4.sel [3]) rfl rfl (Rd.lit (Sc4.block 0 rfl).1) (by rfl) (by simp [Value.oneCell']) (by unfold maxLen; omega) (by omega) ?_
    intro ao9 cp9 w9 S9
    refine hK.out _ _ ?_
    clear hK K
    try simp only [Act.put, List.getElem_toArray, List.getElem_cons_zero, List.getElem_cons_succ, List.setIfInBounds_toArray, List.set_cons_zero, List.set_cons_succ]
    refine wpAny_loc (i := 10) (v := ?_) (LN := #[true, true, true, true, true, true, true, true, true, true, true, false, false]) rfl (by kernel_rfl) (by kernel_rfl) (by kernel_rfl) (fun _ _ _ h => h) (by kernel_rfl) (by rfl) ?_ ?_
    rotate_left
    · intro w; first | (go_simp; done) | (go_simp; with_reducible rfl)
    try simp only [Act.put, List.getElem_toArray, List.getElem_cons_zero, List.getElem_cons_succ, List.setIfInBounds_toArray, List.set_cons_zero, List.set_cons_succ]
    refine wpAny_loc (i := 11) (v := ?_) (LN := #[true, true, true, true, true, true, true, true, true, true, true, true, false]) rfl (by kernel_rfl) (by kernel_rfl) (by kernel_rfl) (fun _ _ _ h => h) (by kernel_rfl) (by rfl) ?_ ?_
    rotate_left
    · intro w; first | (go_simp; done) | (go_simp; with_reducible rfl)
    try simp only [Act.put, List.getElem_toArray, List.getElem_cons_zero, List.getElem_cons_succ, List.setIfInBounds_toArray, List.set_cons_zero, List.set_cons_succ]
    refine wpAny_one (i := 12) (LN := #[true, true, true, true, true, true, true, true, true, true, true, true, true]) (by kernel_rfl) rfl (by kernel_rfl) ?_
    intro K hK
    have n1 := S9.cell 3 rfl 1
    have m1 := S9.frozen 3 rfl 1
    simp only [List.getElem?_cons_zero, List.getElem?_cons_succ] at n1
    have S10 := S9.setCell (k := 1) (v := .slice ao9 (s.rows.length + 1) cp9) 3 rfl
    go_simp
    refine hK.out _ _ ?_
    clear hK K
    try simp only [Act.put, List.getElem_toArray, List.getElem_cons_zero, List.getElem_cons_succ, List.setIfInBounds_toArray, List.set_cons_zero, List.set_cons_succ]
    refine ⟨by kernel_rfl, ?_⟩
    try simp only [Act.put, List.getElem_toArray, List.getElem_cons_zero, List.getElem_cons_succ, List.setIfInBounds_toArray, List.set_cons_zero, List.set_cons_succ]
    have hm := HM.out
    subst hm
    have T1 := brs_push rfl (S10.sel [0, 1, 2])
    have e1 : (s.rows ++ [p]).length = s.rows.length + 1 := by simp
    have S11 : Sat W0 _ (DL g { s with rows := s.rows ++ [p] } :: L) := DL_open.2 ⟨ao9, cp9, by unfold DKs; dsimp only; rw [e1]; exact (T1.sel [1]).tail.swap⟩
    clear S10 S9 n1 m1 T1
    go_wp2_with (go_at_call 36; refine (goes_any S11 OK1.out hN).mono ?_; unfold Outs; rintro e w11 ⟨ao, cp, rfl, S12⟩)
    go_ret2
    exact ⟨ao, cp, rfl, S12⟩
  · intro K hK
    go_simp
    have Sc1 := Sat.own_new (n := 0) (cap := 0) (size := 1) (xs := []) (post := []) (S3.alloc [] 5) rfl (Nat.le_refl _) (by unfold maxLen; omega) (by simp)
    refine hK.out _ _ ?_
    clear hK K
    try simp only [Act.put, List.getElem_toArray, List.getElem_cons_zero, List.getElem_cons_succ, List.setIfInBounds_toArray, List.set_cons_zero, List.set_cons_succ]
    refine wpAny_two (i := 4) (j := 7) (Li := #[true, true, true, true, true, true, true, false, false, false, false, false, false]) (Lj := #[true, true, true, true, false, true, true, true, false, false, false, false, false]) (by kernel_rfl) rfl rfl (by kernel_rfl) (by kernel_rfl) ?_ ?_
    · intro K hK
      have cc := Sc1.cell 1 rfl 1
      simp only [List.getElem?_cons_zero, List.getElem?_cons_succ] at cc
      go_simp
      have Sc2 := Sc1
      clear cc
      refine hK.out _ _ ?_
      clear hK K
      try simp only [Act.put, List.getElem_toArray, List.getElem_cons_zero, List.getElem_cons_succ, List.setIfInBounds_toArray, List.set_cons_zero, List.set_cons_succ]
      refine wpAny_one (i := 7) (LN := #[true, true, true, true, true, true, true, true, false, false, false, false, false]) (by kernel_rfl) rfl (by kernel_rfl) ?_
      intro K hK
      refine step_append_sat rfl _ _ _ rfl 5 j0 (.int .u8 0) 1 1 Try.underlying29 hj jz0 jz1 jz2 rfl (by decide) Sc2 rfl rfl (HRM.out _ Sc2.tail.tail.tail.tail) (by rw [bv_length, HM.out, Nat.mul_one]) (bv_one _) (by unfold maxLen; omega) (by omega) ?_
      intro pa pc w6 Sc3
      rw [Nat.zero_add] at Sc3 ⊢
      refine hK.out _ _ ?_
      clear hK K
      try simp only [Act.put, List.getElem_toArray, List.getElem_cons_zero, List.getElem_cons_succ, List.setIfInBounds_toArray, List.set_cons_zero, List.set_cons_succ]
      refine wpAny_one (i := 8) (LN := #[true, true, true, true, true, true, true, true, true, false, false, false, false]) (by kernel_rfl) rfl (by kernel_rfl) ?_
      intro K hK
      go_simp
      have Sc4 := Sc3.alloc [.slice pa m pc] 29
      refine hK.out _ _ ?_
      clear hK K
      try simp only [Act.put, List.getElem_toArray, List.getElem_cons_zero, List.getElem_cons_succ, List.setIfInBounds_toArray, List.set_cons_zero, List.set_cons_succ]
      refine wpAny_one (i := 9) (LN := #[true, true, true, true, true, true, true, true, true, true, false, false, false]) (by kernel_rfl) rfl (by kernel_rfl) ?_
      intro K hK
      refine step_append_sat rfl _ _ _ rfl 29 i0 _ 1 24 Try.underlying25 hi hz0 hz1 hz2 rfl (by decide) (Sc4.sel [3]) rfl rfl (Rd.lit (Sc4.block 0 rfl).1) (by rfl) (by simp [Value.oneCell']) (by unfold maxLen; omega) (by omega) ?_
      intro ao9 cp9 w9 S9
      refine hK.out _ _ ?_
      clear hK K
      try simp only [Act.put, List.getElem_toArray, List.getElem_cons_zero, List.getElem_cons_succ, List.setIfInBounds_toArray, List.set_cons_zero, List.set_cons_succ]
      refine wpAny_loc (i := 10) (v := ?_) (LN := #[true, true, true, true, true, true, true, true, true, true, true, false, false]) rfl (by kernel_rfl) (by kernel_rfl) (by kernel_rfl) (fun _ _ _ h => h) (by kernel_rfl) (by rfl) ?_ ?_
      rotate_left
      · intro w; first | (go_simp; done) | (go_simp; with_reducible rfl)
      try simp only [Act.put, List.getElem_toArray, List.getElem_cons_zero, List.getElem_cons_succ, List.setIfInBounds_toArray, List.set_cons_zero, List.set_cons_succ]
      refine wpAny_loc (i := 11) (v := ?_) (LN := #[true, true, true, true, true, true, true, true, true, true, true, true, false]) rfl (by kernel_rfl) (by kernel_rfl) (by kernel_rfl) (fun _ _ _ h => h) (by kernel_rfl) (by rfl) ?_ ?_
      rotate_left
      · intro w; first | (go_simp; done) | (go_simp; with_reducible rfl)
      try simp only [Act.put, List.getElem_toArray, List.getElem_cons_zero, List.getElem_cons_succ, List.setIfInBounds_toArray, List.set_cons_zero, List.set_cons_succ]
      refine wpAny_one (i := 12) (LN := #[true, true, true, true, true, true, true, true, true, true, true, true, true]) (by kernel_rfl) rfl (by kernel_rfl) ?_
      intro K hK
      have n1 := S9.cell 3 rfl 1
      have m1 := S9.frozen 3 rfl 1
      simp only [List.getElem?_cons_zero, List.getElem?_cons_succ] at n1
      have S10 := S9.setCell (k := 1) (v := .slice ao9 (s.rows.length + 1) cp9) 3 rfl
      go_simp
      refine hK.out _ _ ?_
      clear hK K
      try simp only [Act.put, List.getElem_toArray, List.getElem_cons_zero, List.getElem_cons_succ, List.setIfInBounds_toArray, List.set_cons_zero, List.set_cons_succ]
      refine ⟨by kernel_rfl, ?_⟩
      try simp only [Act.put, List.getElem_toArray, List.getElem_cons_zero, List.getElem_cons_succ, List.setIfInBounds_toArray, List.set_cons_zero, List.set_cons_succ]
      have hm := HM.out
      subst hm
      have T1 := brs_push rfl (S10.sel [0, 1, 2])
      have e1 : (s.rows ++ [p]).length = s.rows.length + 1 := by simp
      have S11 : Sat W0 _ (DL g { s with rows := s.rows ++ [p] } :: L) := DL_open.2 ⟨ao9, cp9, by unfold DKs; dsimp only; rw [e1]; exact (T1.sel [1]).tail.swap⟩
      clear S10 S9 n1 m1 T1
      go_wp2_with (go_at_call 36; refine (goes_any S11 OK1.out hN).mono ?_; unfold Outs; rintro e w11 ⟨ao, cp, rfl, S12⟩)
      go_ret2
      exact ⟨ao, cp, rfl, S12⟩
    · intro K hK
      refine step_append_sat rfl _ _ _ rfl 5 j0 (.int .u8 0) 1 1 Try.underlying29 hj jz0 jz1 jz2 rfl (by decide) Sc1 rfl rfl (HRM.out _ Sc1.tail.tail.tail.tail) (by rw [bv_length, HM.out, Nat.mul_one]) (bv_one _) (by unfold maxLen; omega) (by omega) ?_
      intro pa pc w6 Sc2
      rw [Nat.zero_add] at Sc2 ⊢
      refine hK.out _ _ ?_
      clear hK K
      try simp only [Act.put, List.getElem_toArray, List.getElem_cons_zero, List.getElem_cons_succ, List.setIfInBounds_toArray, List.set_cons_zero, List.set_cons_succ]
      refine wpAny_two (i := 4) (j := 8) (Li := #[true, true, true, true, true, true, true, true, false, false, false, false, false]) (Lj := #[true, true, true, true, false, true, true, true, true, false, false, false, false]) (by kernel_rfl) rfl rfl (by kernel_rfl) (by kernel_rfl) ?_ ?_
      · intro K hK
        have cc := Sc2.cell 1 rfl 1
        simp only [List.getElem?_cons_zero, List.getElem?_cons_succ] at cc
        go_simp
        have Sc3 := Sc2
        clear cc
        refine hK.out _ _ ?_
        clear hK K
        try simp only [Act.put, List.getElem_toArray, List.getElem_cons_zero, List.getElem_cons_succ, List.setIfInBounds_toArray, List.set_cons_zero, List.set_cons_succ]
        refine wpAny_one (i := 8) (LN := #[true, true, true, true, true, true, true, true, true, false, false, false, false]) (by kernel_rfl) rfl (by kernel_rfl) ?_
        intro K hK
        go_simp
        have Sc4 := Sc3.alloc [.slice pa m pc] 29
        refine hK.out _ _ ?_
        clear hK K
        try simp only [Act.put, List.getElem_toArray, List.getElem_cons_zero, List.getElem_cons_succ, List.setIfInBounds_toArray, List.set_cons_zero, List.set_cons_succ]
        refine wpAny_one (i := 9) (LN := #[true, true, true, true, true, true, true, true, true, true, false, false, false]) (by kernel_rfl) rfl (by kernel_rfl) ?_
        intro K hK
        refine step_append_sat rfl _ _ _ rfl 29 i0 _ 1 24 Try.underlying25 hi hz0 hz1 hz2 rfl (by decide) (Sc4.sel [3]) rfl rfl (Rd.lit (Sc4.block 0 rfl).1) (by rfl) (by simp [Value.oneCell']) (by unfold maxLen; omega) (by omega) ?_
        intro ao9 cp9 w9 S9
        refine hK.out _ _ ?_
        clear hK K
        try simp only [Act.put, List.getElem_toArray, List.getElem_cons_zero, List.getElem_cons_succ, List.setIfInBounds_toArray, List.set_cons_zero, List.set_cons_succ]
        refine wpAny_loc (i := 10) (v := ?_) (LN := #[true, true, true, true, true, true, true, true, true, true, true, false, false]) rfl (by kernel_rfl) (by kernel_rfl) (by kernel_rfl) (fun _ _ _ h => h) (by kernel_rfl) (by rfl) ?_ ?_
        rotate_left
        · intro w; first | (go_simp; done) | (go_simp; with_reducible rfl)
        try simp only [Act.put, List.getElem_toArray, List.getElem_cons_zero, List.getElem_cons_succ, List.setIfInBounds_toArray, List.set_cons_zero, List.set_cons_succ]
        refine wpAny_loc (i := 11) (v := ?_) (LN := #[true, true, true, true, true, true, true, true, true, true, true, true, false]) rfl (by kernel_rfl) (by kernel_rfl) (by kernel_rfl) (fun _ _ _ h => h) (by kernel_rfl) (by rfl) ?_ ?_
        rotate_left
        · intro w; first | (go_simp; done) | (go_simp; with_reducible rfl)
        try simp only [Act.put, List.getElem_toArray, List.getElem_cons_zero, List.getElem_cons_succ, List.setIfInBounds_toArray, List.set_cons_zero, List.set_cons_succ]
        refine wpAny_one (i := 12) (LN := #[true, true, true, true, true, true, true, true, true, true, true, true, true]) (by kernel_rfl) rfl (by kernel_rfl) ?_
        intro K hK
        have n1 := S9.cell 3 rfl 1
        have m1 := S9.frozen 3 rfl 1
        simp only [List.getElem?_cons_zero, List.getElem?_cons_succ] at n1
        have S10 := S9.setCell (k := 1) (v := .slice ao9 (s.rows.length + 1) cp9) 3 rfl
        go_simp
        refine hK.out _ _ ?_
        clear hK K
        try simp only [Act.put, List.getElem_toArray, List.getElem_cons_zero, List.getElem_cons_succ, List.setIfInBounds_toArray, List.set_cons_zero, List.set_cons_succ]
        refine ⟨by kernel_rfl, ?_⟩
        try simp only [Act.put, List.getElem_toArray, List.getElem_cons_zero, List.getElem_cons_succ, List.setIfInBounds_toArray, List.set_cons_zero, List.set_cons_succ]
        have hm := HM.out
        subst hm
        have T1 := brs_push rfl (S10.sel [0, 1, 2])
        have e1 : (s.rows ++ [p]).length = s.rows.length + 1 := by simp
        have S11 : Sat W0 _ (DL g { s with rows := s.rows ++ [p] } :: L) := DL_open.2 ⟨ao9, cp9, by unfold DKs; dsimp only; rw [e1]; exact (T1.sel [1]).tail.swap⟩
        clear S10 S9 n1 m1 T1
        go_wp2_with (go_at_call 36; refine (goes_any S11 OK1.out hN).mono ?_; unfold Outs; rintro e w11 ⟨ao, cp, rfl, S12⟩)
        go_ret2
        exact ⟨ao, cp, rfl, S12⟩
      · intro K hK
        go_simp
        have Sc3 := Sc2.alloc [.slice pa m pc] 29
        refine hK.out _ _ ?_
        clear hK K
        try simp only [Act.put, List.getElem_toArray, List.getElem_cons_zero, List.getElem_cons_succ, List.setIfInBounds_toArray, List.set_cons_zero, List.set_cons_succ]
        refine wpAny_one (i := 4) (LN := #[true, true, true, true, true, true, true, true, true, false, false, false, false]) (by kernel_rfl) rfl (by kernel_rfl) ?_
        intro K hK
        have cc := Sc3.cell 2 rfl 1
        simp only [List.getElem?_cons_zero, List.getElem?_cons_succ] at cc
        go_simp
        have Sc4 := Sc3
        clear cc
        refine hK.out _ _ ?_
        clear hK K
        try simp only [Act.put, List.getElem_toArray, List.getElem_cons_zero, List.getElem_cons_succ, List.setIfInBounds_toArray, List.set_cons_zero, List.set_cons_succ]
        refine wpAny_one (i := 9) (LN := #[true, true, true, true, true, true, true, true, true, true, false, false, false]) (by kernel_rfl) rfl (by kernel_rfl) ?_
        intro K hK
        refine step_append_sat rfl _ _ _ rfl 29 i0 _ 1 24 Try.underlying25 hi hz0 hz1 hz2 rfl (by decide) (Sc4.sel [3]) rfl rfl (Rd.lit (Sc4.block 0 rfl).1) (by rfl) (by simp [Value.oneCell']) (by unfold maxLen; omega) (by omega) ?_
        intro ao9 cp9 w9 S9
        refine hK.out _ _ ?_
        clear hK K
        try simp only [Act.put, List.getElem_toArray, List.getElem_cons_zero, List.getElem_cons_succ, List.setIfInBounds_toArray, List.set_cons_zero, List.set_cons_succ]
        refine wpAny_loc (i := 10) (v := ?_) (LN := #[true, true, true, true, true, true, true, true, true, true, true, false, false]) rfl (by kernel_rfl) (by kernel_rfl) (by kernel_rfl) (fun _ _ _ h => h) (by kernel_rfl) (by rfl) ?_ ?_
        rotate_left
        · intro w; first | (go_simp; done) | (go_simp; with_reducible rfl)
        try simp only [Act.put, List.getElem_toArray, List.getElem_cons_zero, List.getElem_cons_succ, List.setIfInBounds_toArray, List.set_cons_zero, List.set_cons_succ]
        refine wpAny_loc (i := 11) (v := ?_) (LN := #[true, true, true, true, true, true, true, true, true, true, true, true, false]) rfl (by kernel_rfl) (by kernel_rfl) (by kernel_rfl) (fun _ _ _ h => h) (by kernel_rfl) (by rfl) ?_ ?_
        rotate_left
        · intro w; first | (go_simp; done) | (go_simp; with_reducible rfl)
        try simp only [Act.put, List.getElem_toArray, List.getElem_cons_zero, List.getElem_cons_succ, List.setIfInBounds_toArray, List.set_cons_zero, List.set_cons_succ]
        refine wpAny_one (i := 12) (LN := #[true, true, true, true, true, true, true, true, true, true, true, true, true]) (by kernel_rfl) rfl (by kernel_rfl) ?_
        intro K hK
        have n1 := S9.cell 3 rfl 1
        have m1 := S9.frozen 3 rfl 1
        simp only [List.getElem?_cons_zero, List.getElem?_cons_succ] at n1
        have S10 := S9.setCell (k := 1) (v := .slice ao9 (s.rows.length + 1) cp9) 3 rfl
        go_simp
        refine hK.out _ _ ?_
        clear hK K
        try simp only [Act.put, List.getElem_toArray, List.getElem_cons_zero, List.getElem_cons_succ, List.setIfInBounds_toArray, List.set_cons_zero, List.set_cons_succ]
        refine ⟨by kernel_rfl, ?_⟩
        try simp only [Act.put, List.getElem_toArray, List.getElem_cons_zero, List.getElem_cons_succ, List.setIfInBounds_toArray, List.set_cons_zero, List.set_cons_succ]
        have hm := HM.out
        subst hm
        have T1 := brs_push rfl (S10.sel [0, 1, 2])
        have e1 : (s.rows ++ [p]).length = s.rows.length + 1 := by simp
        have S11 : Sat W0 _ (DL g { s with rows := s.rows ++ [p] } :: L) := DL_open.2 ⟨ao9, cp9, by unfold DKs; dsimp only; rw [e1]; exact (T1.sel [1]).tail.swap⟩
        clear S10 S9 n1 m1 T1
        go_wp2_with (go_at_call 36; refine (goes_any S11 OK1.out hN).mono ?_; unfold Outs; rintro e w11 ⟨ao, cp, rfl, S12⟩)
        go_ret2
        exact ⟨ao, cp, rfl, S12⟩
end Go.Proofs.Ytdgalljalcediaa
end

section
namespace Go.Proofs.Ytdgalljalcediaa
open Go.RowKit Go.Sep Go.Oct
set_option linter.unusedSimpArgs false

set_option maxRecDepth 100000 in
set_option maxHeartbeats 6400000 in
theorem r16tick_any {W0 w : World} {L : List Asn} {g : Nat} {s : LS} {N : Int} (S : Sat W0 w (DL g s :: L)) (ok : s.Ok N) (hN : N ≤ 1000000000000) :
    Calls Try.prog 42 #[.pointer (some ⟨g, 0, none⟩)] w (Outs W0 (DL g (tickP s).2 :: L) (tickP s).1) := by
  obtain ⟨ra, rc, S0⟩ := DL_open.1 S
  have c3 := S0.cell 0 rfl 2
  have c5 := S0.cell 0 rfl 5
  have f5 := S0.frozen 0 rfl 5
  simp only [List.getElem?_cons_zero, List.getElem?_cons_succ] at c3 c5
  by_cases h1 : s.under = 0
  · have hP : tickP s = ([], { s with waited := 0 }) := by unfold tickP; rw [if_pos h1]
    rw [hP]
    have S1 := S0.setCell (k := 5) (v := .int .i64 0) 0 rfl
    rw [h1] at c3
    clear h1
    go_enter Try.func42, Try.ntmps42
    go_wp2_with fail
    go_ret
    exact ⟨none, 0, rfl, brs_none (DL_open.2 ⟨ra, rc, S1⟩)⟩
  have hu : (((s.under : Nat) : Int) == 0) = false := by simpa using h1
  have hwr : IntKind.i64.wrap (s.waited + 1) = s.waited + 1 := by have := ok.w0; have := ok.w5; rw [IntKind.wrap_i64]; omega
  have S1 := S0.setCell (k := 5) (v := .int .i64 (s.waited + 1)) 0 rfl
  by_cases h2 : s.waited + 1 < 5
  · have hP : tickP s = ([], { s with waited := s.waited + 1 }) := by unfold tickP; rw [if_neg h1, if_pos h2]
    rw [hP]
    have hd : decide (s.waited + 1 < 5) = true := decide_eq_true h2
    clear h2
    go_enter Try.func42, Try.ntmps42
    go_wp2_with fail
    go_ret
    exact ⟨none, 0, rfl, brs_none (DL_open.2 ⟨ra, rc, S1⟩)⟩
  have hP : tickP s = (tickO s s.under, { s with waited := 0, sent := s.sent + s.under }) := by unfold tickP; rw [if_neg h1, if_neg h2]; rfl
  rw [hP]
  have hd : decide (s.waited + 1 < 5) = false := decide_eq_false h2
  obtain ⟨hs, -, hl, S2⟩ := brs_out S1.swap
  have S3 : Sat W0 _ (DK g s.id (.slice ra s.rows.length rc) s.first (s.under : Int) s.came (s.waited + 1) s.sent s.vain :: _) := S2.sel [2]
  obtain ⟨i0, hi, hz0, hz1, hz2⟩ := info_parts Try.infoR
  have hO := Lib.hid ok
  have hul := ok.ul
  have hu16 := ok.u16
  have hlen := ok.len
  have hf1 := ok.f1
  have hfN := ok.fN
  have hc0 := ok.c0
  have hcN := ok.cN
  have hs0 := ok.s0
  have hsN := ok.sN
  have HN := Lib.hid hN
  clear S S0 S1 S2 ok hN h2 hP
  go_enter Try.func42, Try.ntmps42
  go_wp2_with fail
  go_loopw [3, 4] (fun o i wr => ∃ (k : Nat) (ao : Option Addr) (cp : Nat) (wt : Int), k ≤ s.under ∧ o = .slice ao k cp ∧ i = .int .i64 k ∧ Hid (wt = if k = 0 then s.waited + 1 else 0) ∧ Sat W0 wr (DK g s.id (.slice ra s.rows.length rc) s.first (s.under : Int) s.came wt (s.sent + k) s.vain :: slc 29 1 ra s.rows.length rc (hs.map hv) :: rowsB hs s.rows :: brs ao k cp (tickO s k) :: L)) (fun o _ _ => s.under - lenV o)
  case atStart =>
    refine ⟨0, none, 0, s.waited + 1, by omega, rfl, rfl, rfl, ?_⟩
    have S4 := brs_none S3
    simp only [Int.natCast_zero, Int.add_zero]
    exact S4.sel [1, 1, 1]
  case round =>
    clear S3 c3 c5 f5
    obtain ⟨k, ao, cp, wt, hk, rfl, rfl, HW, S4⟩ := hrel
    have k0 : (0 : Int) ≤ (k : Int) := by omega
    have cu := S4.cell 0 rfl 2
    simp only [List.getElem?_cons_zero, List.getElem?_cons_succ] at cu
    by_cases hlt : k < s.under
    · have hcond : decide ((k : Int) < ((s.under : Nat) : Int)) = true := decide_eq_true (by omega)
      obtain ⟨x, hx⟩ : ∃ x, s.rows[k]? = some x := ⟨s.rows[k]'(by omega), List.getElem?_eq_getElem _⟩
      obtain ⟨xa, xc, hhx, -, -, -⟩ := rowsB_at (S4.sel [2]) hx
      have hcell := (S4.sel [1]).own_rd k (hv (xa, x.length, xc)) (by rw [List.getElem?_map, hhx]; rfl)
      obtain ⟨rb, ro, rfl, ce⟩ := hcell
      have hlx := (S4.sel [1]).own_len
      have hrow := (hO.out).row x (List.mem_of_getElem? hx)
      have hid := (hO.out).id
      have HID := Lib.hid hid
      have HROW := Lib.hid hrow
      have HLX := Lib.hid hlx
      have HX := Lib.hid hx
      have HRX := Lib.hid (fun (w' : World) (h : Sat W0 w' (slc 29 1 (some ⟨rb, ro, none⟩) s.rows.length rc (hs.map hv) :: rowsB hs s.rows :: brs ao k cp (tickO s k) :: L)) => show Rd w' xa (bv x) by
        obtain ⟨ya, yc, hy, hr, -, -⟩ := rowsB_at (h.sel [1]) hx
        rw [hhx] at hy
        cases hy
        exact hr)
      have HEX := Lib.hid (fun (w' : World) (h : Sat W0 w' (slc 29 1 (some ⟨rb, ro, none⟩) s.rows.length rc (hs.map hv) :: rowsB hs s.rows :: brs ao k cp (tickO s k) :: L)) => h.own_rd.at (j := k) (u := .slice xa x.length xc) (by rw [List.getElem?_map, hhx]; rfl))
      clear hx hhx ce hid hrow hlx
      obtain ⟨n, hn'⟩ : ∃ n : Int, s.first + (k : Int) = n := ⟨_, rfl⟩
      have hw1 : IntKind.i64.wrap (s.first + (k : Int)) = n := by have := HN.out; rw [IntKind.wrap_i64]; omega
      have hw2 : IntKind.i64.wrap ((k : Int) + 1) = (k : Int) + 1 := by rw [IntKind.wrap_i64]; omega
      have HNN := Lib.hid hn'
      have hn0 : 0 < n := by omega
      have hnI : I64 n := by have := HN.out; unfold I64; omega
      have HNI := Lib.hid hnI
      clear hn' hnI
      have c3 := S4.cell 0 rfl 3
      simp only [List.getElem?_cons_zero, List.getElem?_cons_succ] at c3
      go_wp2_with (first
        | (go_at_call 37; refine (r16packet_row S4 (j := k) (by omega) HLX.out.2.1 HNN.out.symm hn0 HEX.out HRX.out rfl HROW.out.1 HID.out HNI.out (by have := HN.out; unfold I64; omega) (by have := HN.out; omega) (by have := HROW.out.2; omega) (by omega)).mono ?_; unfold Packed; rintro e w6 ⟨pa, pc, rfl, S6⟩; have S7 := S6.alloc [.slice pa (packP s.id n s.came x).length pc] 29; obtain ⟨ho, -, hol, S8⟩ := brs_out (S7.sel [5]))
        | (at_builtin; refine wpList_append_sat rfl (.tmp 33) (.tmp 42) _ rfl 29 i0 _ 1 24 Try.underlying25 hi hz0 hz1 hz2 rfl (by decide) S8 rfl rfl (Rd.lit (S7.block 0 rfl).1) (by rfl) (by simp [Value.oneCell']) (by unfold maxLen; omega) (by omega) ?_; intro ao9 cp9 w9 S9))
      have hout : tickO s (k + 1) = tickO s k ++ [packP s.id n s.came x] := by
        rw [tickO_succ, HX.out, ← HNN.out]
        rfl
      refine ⟨⟨k + 1, ao9, cp9, 0, by omega, rfl, by go_num, by rw [if_neg (by omega)]; exact rfl, ?_⟩, by simp [lenV]; omega⟩
      have T1 := brs_push (tickO_length s k) (S9.sel [0, 2, 0])
      rw [← hout] at T1
      have T2 := ((T1.sel [1]).tail.sel [1, 1, 1])
      have e1 : s.sent + ((k + 1 : Nat) : Int) = s.sent + (k : Int) + 1 := by omega
      rw [e1]
      exact T2
    · have hcond : decide ((k : Int) < ((s.under : Nat) : Int)) = false := decide_eq_false (by omega)
      go_wp2_with fail
      go_ret
      obtain rfl : k = s.under := by omega
      refine ⟨ao, cp, by rw [tickO_length]; rfl, ?_⟩
      rw [tickO_length]
      have T1 := S4.sel [3]
      have T2 := (brs_in rfl (T1.sel [2, 2]) : Sat W0 _ (brs ra s.rows.length rc s.rows :: brs ao s.under cp (tickO s s.under) :: _))
      refine Sat.swap (DL_open.2 ⟨ra, rc, ?_⟩)
      have T3 := T2.sel [2, 0]
      have ew : wt = 0 := by rw [HW.out, if_neg h1]
      rw [ew] at T3
      exact T3
end Go.Proofs.Ytdgalljalcediaa
end

section
namespace Go.Proofs.Ytdgalljalcediaa
open Go.RowKit Go.Sep Go.Oct
set_option linter.unusedSimpArgs false

def HearsPost (W0 : World) (L : List Asn) (x p0 p1 q0 q1 : Nat) (ps : List (Int × List Int)) (ei : Int) (pe qe : Nat) (R : List (List Int) × List (List Int) × LS) (e : Ending) (w' : World) : Prop :=
  e = .returned (.bool true) ∧ Sat W0 w' (BW2 x p0 p1 q0 q1 (ps ++ R.2.1.map fun r => (1 - ei, r)) :: PL pe R.2.2 :: DL qe R.2.2 :: L)
set_option maxRecDepth 100000 in
set_option maxHeartbeats 6400000 in
theorem hears_any {W0 w : World} {L : List Asn} {x p0 p1 q0 q1 : Nat} {ei : Int} {pe qe : Nat} (hei : (ei = 0 ∧ pe = p0 ∧ qe = q0) ∨ (ei = 1 ∧ pe = p1 ∧ qe = q1)) {ps : List (Int × List Int)} {hs : List Hd} {wa : Option Addr} {wc : Nat} {s : LS} {N : Int}
    (S : Sat W0 w (BK x p0 p1 q0 q1 (.slice wa ps.length wc) :: slc 58 2 wa ps.length wc (wayV ps hs) :: rowsB hs (ps.map (·.2)) :: PL pe s :: DL qe s :: L)) (ok : s.Ok N) (hN : N ≤ 900000000000) (hps : ps.length ≤ 100000000)
    {a : Option Addr} {m c : Nat} {b : List Int} (hR : ∀ w' A B, Sat W0 w' (BK x p0 p1 q0 q1 (.slice wa ps.length wc) :: slc 58 2 wa ps.length wc (wayV ps hs) :: rowsB hs (ps.map (·.2)) :: A :: B :: L) → Rd w' a (bv b))
    (hm : b.length = m) (hB : Bytes b) (hmc : m ≤ c) (hcm : c ≤ maxLen) (hb : m ≤ 100000000) :
    Calls Try.prog 43 #[.pointer (some ⟨x, 0, none⟩), .int .i64 ei, .slice a m c] w (HearsPost W0 L x p0 p1 q0 q1 ps ei pe qe (hearP s b)) := by
  have HHA := Lib.hid (fun (w' : World) (M : List Asn) (a : Option Addr) (c : Nat) (h : Sat W0 w' (PL pe s :: M)) (hR : ∀ w', Sat W0 w' M → Rd w' a (bv b)) (hc : m ≤ c) => hear_any h ok hN hR hm hB hc (by omega))
  have HHD := Lib.hid (fun (w' : World) (M : List Asn) (h : Sat W0 w' (DL qe s :: M)) (hR : ∀ w', Sat W0 w' M → Rd w' a (bv b)) => r16hear_any h ok hN hR hm hB hmc hcm (by omega))
  have HB1 := Lib.hid (hear_rows_len (s := s) (b := b))
  have hsm := ok.hearOut hN b
  have HB2 := Lib.hid (small_len hsm)
  have HB3 : Hid (∀ r ∈ (hearP s b).2.1, r.length ≤ 1000000) := fun r hr => by have := (hsm r hr).2; omega
  have hol := hear_outs_len (s := s) (b := b)
  generalize hearP s b = R at HHA HHD HB1 HB2 HB3 hol ⊢
  obtain ⟨rw1, ou1, s2⟩ := R
  dsimp only at HB1 HB2 HB3 hol
  have HM := Lib.hid hm
  have HR := Lib.hid hR
  clear hm hR hB hsm ok hN
  have HC := Lib.hid (fun (w' : World) (M : List Asn) (h : Sat W0 w' (BK x p0 p1 q0 q1 (.slice wa ps.length wc) :: M)) => (⟨(h.cell 0 rfl 0 : _), (h.cell 0 rfl 1 : _), (h.cell 0 rfl 2 : _), (h.cell 0 rfl 3 : _)⟩ :
    w'.cell? ⟨x, 0, none⟩ = some (.pointer (some ⟨p0, 0, none⟩)) ∧ w'.cell? ⟨x, 1, none⟩ = some (.pointer (some ⟨p1, 0, none⟩)) ∧ w'.cell? ⟨x, 2, none⟩ = some (.pointer (some ⟨q0, 0, none⟩)) ∧ w'.cell? ⟨x, 3, none⟩ = some (.pointer (some ⟨q1, 0, none⟩))))
  rcases hei with ⟨rfl, rfl, rfl⟩ | ⟨rfl, rfl, rfl⟩
  · go_enter Try.func43, Try.ntmps43
    go_wp2_with (first
      | (go_at_call 38; refine (roomy_any S (fun w' h => HR.out _ _ _ h) HM.out (by omega)).mono ?_; rintro e w1 ⟨ad, cp, rfl, S1⟩; have hcp := (sbs_rd S1).2.2.1))
    have S2 := S1.drew
    clear S S1
    refine wp_region_drawn (N := 16) (LN := #[false, false, false, false, false, false, false, false, false, false, false, false, false, false, false, false]) (by kernel_rfl) (by kernel_rfl) (by kernel_rfl) ?_
    generalize w1.drew = w2 at S2 ⊢
    have hcs := HC.out _ _ (S2.sel [1])
    have hmcp : m ≤ cp := by omega
    refine wpAny_seg 0 10 6 16 #[true, true, true, true, true, true, true, true, true, true, false, false, false, false, false, false] (by kernel_rfl) (by kernel_rfl) ?_
    simp only [List.take_succ_cons, List.take_zero, List.drop_succ_cons, List.drop_zero]
    refine wpStill_step (fun K hK => ?_); go_simp; refine hK _ ?_; clear hK K
    try simp only [Act.put, List.getElem_toArray, List.getElem_cons_zero, List.getElem_cons_succ, List.setIfInBounds_toArray, List.set_cons_zero, List.set_cons_succ]
    refine wpStill_step (fun K hK => ?_); go_simp; refine hK _ ?_; clear hK K
    try simp only [Act.put, List.getElem_toArray, List.getElem_cons_zero, List.getElem_cons_succ, List.setIfInBounds_toArray, List.set_cons_zero, List.set_cons_succ]
    refine wpStill_step (fun K hK => ?_); go_simp; refine hK _ ?_; clear hK K
    try simp only [Act.put, List.getElem_toArray, List.getElem_cons_zero, List.getElem_cons_succ, List.setIfInBounds_toArray, List.set_cons_zero, List.set_cons_succ]
    refine wpStill_step (fun K hK => ?_); go_simp; refine hK _ ?_; clear hK K
    try simp only [Act.put, List.getElem_toArray, List.getElem_cons_zero, List.getElem_cons_succ, List.setIfInBounds_toArray, List.set_cons_zero, List.set_cons_succ]
    refine wpStill_step (fun K hK => ?_); go_simp; refine hK _ ?_; clear hK K
    try simp only [Act.put, List.getElem_toArray, List.getElem_cons_zero, List.getElem_cons_succ, List.setIfInBounds_toArray, List.set_cons_zero, List.set_cons_succ]
    refine wpStill_step (fun K hK => ?_); go_simp; refine hK _ ?_; clear hK K
    try simp only [Act.put, List.getElem_toArray, List.getElem_cons_zero, List.getElem_cons_succ, List.setIfInBounds_toArray, List.set_cons_zero, List.set_cons_succ]
    refine wpStill_step (fun K hK => ?_); go_simp; refine hK _ ?_; clear hK K
    try simp only [Act.put, List.getElem_toArray, List.getElem_cons_zero, List.getElem_cons_succ, List.setIfInBounds_toArray, List.set_cons_zero, List.set_cons_succ]
    refine wpStill_step (fun K hK => ?_); go_simp; refine hK _ ?_; clear hK K
    try simp only [Act.put, List.getElem_toArray, List.getElem_cons_zero, List.getElem_cons_succ, List.setIfInBounds_toArray, List.set_cons_zero, List.set_cons_succ]
    refine wpStill_step (fun K hK => ?_); go_simp; refine hK _ ?_; clear hK K
    try simp only [Act.put, List.getElem_toArray, List.getElem_cons_zero, List.getElem_cons_succ, List.setIfInBounds_toArray, List.set_cons_zero, List.set_cons_succ]
    refine wpStill_step (fun K hK => ?_); go_simp; refine hK _ ?_; clear hK K
    try simp only [Act.put, List.getElem_toArray, List.getElem_cons_zero, List.getElem_cons_succ, List.setIfInBounds_toArray, List.set_cons_zero, List.set_cons_succ]
    refine wpStill_nil ?_
    refine wpAny_one (i := 10) (LN := #[true, true, true, true, true, true, true, true, true, true, true, false, false, false, false, false]) (by kernel_rfl) rfl (by kernel_rfl) ?_
    intro K hK
    go_simp
    go_at_call 15
    refine (HHA.out _ _ _ _ (S2.sel [4]) (fun w' h => rd_prefix h.own_rd) (by omega)).mono ?_
    unfold HeardP
    rintro e w3 ⟨ra, rc, oa, oc, rfl, S3⟩
    dsimp only at S3 ⊢
    go_wp2_with fail
    refine hK.out _ _ ?_
    clear hK K
    try simp only [Act.put, List.getElem_toArray, List.getElem_cons_zero, List.getElem_cons_succ, List.setIfInBounds_toArray, List.set_cons_zero, List.set_cons_succ]
    refine wpAny_loc (i := 11) (v := ?_) (LN := #[true, true, true, true, true, true, true, true, true, true, true, true, false, false, false, false]) rfl (by kernel_rfl) (by kernel_rfl) (by kernel_rfl) (fun _ _ _ h => h) (by kernel_rfl) (by rfl) ?_ ?_
    rotate_left
    · intro w; first | (go_simp; done) | (go_simp; with_reducible rfl)
    try simp only [Act.put, List.getElem_toArray, List.getElem_cons_zero, List.getElem_cons_succ, List.setIfInBounds_toArray, List.set_cons_zero, List.set_cons_succ]
    refine wpAny_loc (i := 12) (v := ?_) (LN := #[true, true, true, true, true, true, true, true, true, true, true, true, true, false, false, false]) rfl (by kernel_rfl) (by kernel_rfl) (by kernel_rfl) (fun _ _ _ h => h) (by kernel_rfl) (by rfl) ?_ ?_
    rotate_left
    · intro w; first | (go_simp; done) | (go_simp; with_reducible rfl)
    try simp only [Act.put, List.getElem_toArray, List.getElem_cons_zero, List.getElem_cons_succ, List.setIfInBounds_toArray, List.set_cons_zero, List.set_cons_succ]
    refine wpAny_loc (i := 13) (v := ?_) (LN := #[true, true, true, true, true, true, true, true, true, true, true, true, true, true, false, false]) rfl (by kernel_rfl) (by kernel_rfl) (by kernel_rfl) (fun _ _ _ h => h) (by kernel_rfl) (by rfl) ?_ ?_
    rotate_left
    · intro w; first | (go_simp; done) | (go_simp; with_reducible rfl)
    try simp only [Act.put, List.getElem_toArray, List.getElem_cons_zero, List.getElem_cons_succ, List.setIfInBounds_toArray, List.set_cons_zero, List.set_cons_succ]
    refine wpAny_loc (i := 14) (v := ?_) (LN := #[true, true, true, true, true, true, true, true, true, true, true, true, true, true, true, false]) rfl (by kernel_rfl) (by kernel_rfl) (by kernel_rfl) (fun _ _ _ h => h) (by kernel_rfl) (by rfl) ?_ ?_
    rotate_left
    · intro w; first | (go_simp; done) | (go_simp; with_reducible rfl)
    try simp only [Act.put, List.getElem_toArray, List.getElem_cons_zero, List.getElem_cons_succ, List.setIfInBounds_toArray, List.set_cons_zero, List.set_cons_succ]
    refine wpAny_loc (i := 15) (v := ?_) (LN := #[true, true, true, true, true, true, true, true, true, true, true, true, true, true, true, true]) rfl (by kernel_rfl) (by kernel_rfl) (by kernel_rfl) (fun _ _ _ h => h) (by kernel_rfl) (by rfl) ?_ ?_
    rotate_left
    · intro w; first | (go_simp; done) | (go_simp; with_reducible rfl)
    try simp only [Act.put, List.getElem_toArray, List.getElem_cons_zero, List.getElem_cons_succ, List.setIfInBounds_toArray, List.set_cons_zero, List.set_cons_succ]
    refine ⟨by kernel_rfl, ?_⟩
    try simp only [Act.put, List.getElem_toArray, List.getElem_cons_zero, List.getElem_cons_succ, List.setIfInBounds_toArray, List.set_cons_zero, List.set_cons_succ]
    clear hcs S2
    have hcs := HC.out _ _ (S3.sel [4])
    go_wp2_with (first
      | (go_at_call 18; refine (HHD.out _ _ (S3.sel [7]) (fun w' h => HR.out _ _ _ (h.tail.tail.sel [2, 2, 2]))).mono ?_; unfold HeardD; rintro e w4 ⟨ra4, rc4, oa4, oc4, rfl, S4⟩; dsimp only at S4 ⊢)
      | (go_at_call 19; refine (rows_any (brs_rows (S5.sel [4])).1 (brs_rows (S5.sel [1])).1 (brs_rows (S5.sel [1])).2.1 HB2.out (brs_rows (S5.sel [1])).2.2).mono ?_; rintro e w6 ⟨rfl, nq6, hq⟩; have S6 : Sat W0 w6 _ := hq ▸ S5.drewN nq6; clear hq)
      | (go_at_call 19; refine (rows_any (brs_rows (S4.sel [3])).1 (brs_rows S4).1 (brs_rows S4).2.1 HB1.out (brs_rows S4).2.2).mono ?_; rintro e w5 ⟨rfl, nq5, hq⟩; have S5 : Sat W0 w5 _ := hq ▸ S4.drewN nq5; clear hq)
      | (go_at_call 40; refine (stands_any (S6.sel [6]).own_rd (HR.out _ _ _ (((S6.sel [0, 0, 1, 1]).tail.tail.tail.tail.sel [2]).tail.sel [2, 2, 2])) (by rw [HM.out]) HM.out hcp (by omega)).mono ?_; rintro e w7 ⟨rfl, nq7, hq⟩; have S7 : Sat W0 w7 _ := hq ▸ S6.drewN nq7; clear hq)
      | (go_at_call 41; refine (spoil_any (S7.sel [6]) (by omega)).mono ?_; rintro e w8 ⟨rfl, S8⟩; have S9 := WAY_in rfl (S8.sel [7, 7]); have S10 := (BW2_open.2 ⟨wa, wc, S9.sel [7]⟩).sel [0, 1])
      | (go_at_call 23; refine (out_any16 (by omega) S10 HB3.out (by omega) hps).mono ?_; rintro e w11 ⟨rfl, S11⟩))
    go_ret
    exact ⟨rfl, (S11.sel [1, 1, 2, 2]).tail.tail.tail.tail.sel [0, 1]⟩
  · go_enter Try.func43, Try.ntmps43
    go_wp2_with (first
      | (go_at_call 38; refine (roomy_any S (fun w' h => HR.out _ _ _ h) HM.out (by omega)).mono ?_; rintro e w1 ⟨ad, cp, rfl, S1⟩; have hcp := (sbs_rd S1).2.2.1))
    have S2 := S1.drew
    clear S S1
    refine wp_region_drawn (N := 16) (LN := #[false, false, false, false, false, false, false, false, false, false, false, false, false, false, false, false]) (by kernel_rfl) (by kernel_rfl) (by kernel_rfl) ?_
    generalize w1.drew = w2 at S2 ⊢
    have hcs := HC.out _ _ (S2.sel [1])
    have hmcp : m ≤ cp := by omega
    refine wpAny_seg 0 10 6 16 #[true, true, true, true, true, true, true, true, true, true, false, false, false, false, false, false] (by kernel_rfl) (by kernel_rfl) ?_
    simp only [List.take_succ_cons, List.take_zero, List.drop_succ_cons, List.drop_zero]
    refine wpStill_step (fun K hK => ?_); go_simp; refine hK _ ?_; clear hK K
    try simp only [Act.put, List.getElem_toArray, List.getElem_cons_zero, List.getElem_cons_succ, List.setIfInBounds_toArray, List.set_cons_zero, List.set_cons_succ]
    refine wpStill_step (fun K hK => ?_); go_simp; refine hK _ ?_; clear hK K
    try simp only [Act.put, List.getElem_toArray, List.getElem_cons_zero, List.getElem_cons_succ, List.setIfInBounds_toArray, List.set_cons_zero, List.set_cons_succ]
    refine wpStill_step (fun K hK => ?_); go_simp; refine hK _ ?_; clear hK K
    try simp only [Act.put, List.getElem_toArray, List.getElem_cons_zero, List.getElem_cons_succ, List.setIfInBounds_toArray, List.set_cons_zero, List.set_cons_succ]
    refine wpStill_step (fun K hK => ?_); go_simp; refine hK _ ?_; clear hK K
    try simp only [Act.put, List.getElem_toArray, List.getElem_cons_zero, List.getElem_cons_succ, List.setIfInBounds_toArray, List.set_cons_zero, List.set_cons_succ]
    refine wpStill_step (fun K hK => ?_); go_simp; refine hK _ ?_; clear hK K
    try simp only [Act.put, List.getElem_toArray, List.getElem_cons_zero, List.getElem_cons_succ, List.setIfInBounds_toArray, List.set_cons_zero, List.set_cons_succ]
    refine wpStill_step (fun K hK => ?_); go_simp; refine hK _ ?_; clear hK K
    try simp only [Act.put, List.getElem_toArray, List.getElem_cons_zero, List.getElem_cons_succ, List.setIfInBounds_toArray, List.set_cons_zero, List.set_cons_succ]
    refine wpStill_step (fun K hK => ?_); go_simp; refine hK _ ?_; clear hK K
    try simp only [Act.put, List.getElem_toArray, List.getElem_cons_zero, List.getElem_cons_succ, List.setIfInBounds_toArray, List.set_cons_zero, List.set_cons_succ]
    refine wpStill_step (fun K hK => ?_); go_simp; refine hK _ ?_; clear hK K
    try simp only [Act.put, List.getElem_toArray, List.getElem_cons_zero, List.getElem_cons_succ, List.setIfInBounds_toArray, List.set_cons_zero, List.set_cons_succ]
    refine wpStill_step (fun K hK => ?_); go_simp; refine hK _ ?_; clear hK K
    try simp only [Act.put, List.getElem_toArray, List.getElem_cons_zero, List.getElem_cons_succ, List.setIfInBounds_toArray, List.set_cons_zero, List.set_cons_succ]
    refine wpStill_step (fun K hK => ?_); go_simp; refine hK _ ?_; clear hK K
    try simp only [Act.put, List.getElem_toArray, List.getElem_cons_zero, List.getElem_cons_succ, List.setIfInBounds_toArray, List.set_cons_zero, List.set_cons_succ]
    refine wpStill_nil ?_
    refine wpAny_one (i := 10) (LN := #[true, true, true, true, true, true, true, true, true, true, true, false, false, false, false, false]) (by kernel_rfl) rfl (by kernel_rfl) ?_
    intro K hK
    go_simp
    go_at_call 15
    refine (HHA.out _ _ _ _ (S2.sel [4]) (fun w' h => rd_prefix h.own_rd) (by omega)).mono ?_
    unfold HeardP
    rintro e w3 ⟨ra, rc, oa, oc, rfl, S3⟩
    dsimp only at S3 ⊢
    go_wp2_with fail
    refine hK.out _ _ ?_
    clear hK K
    try simp only [Act.put, List.getElem_toArray, List.getElem_cons_zero, List.getElem_cons_succ, List.setIfInBounds_toArray, List.set_cons_zero, List.set_cons_succ]
    refine wpAny_loc (i := 11) (v := ?_) (LN := #[true, true, true, true, true, true, true, true, true, true, true, true, false, false, false, false]) rfl (by kernel_rfl) (by kernel_rfl) (by kernel_rfl) (fun _ _ _ h => h) (by kernel_rfl) (by rfl) ?_ ?_
    rotate_left
    · intro w; first | (go_simp; done) | (go_simp; with_reducible rfl)
    try simp only [Act.put, List.getElem_toArray, List.getElem_cons_zero, List.getElem_cons_succ, List.setIfInBounds_toArray, List.set_cons_zero, List.set_cons_succ]
    refine wpAny_loc (i := 12) (v := ?_) (LN := #[true, true, true, true, true, true, true, true, true, true, true, true, true, false, false, false]) rfl (by kernel_rfl) (by kernel_rfl) (by kernel_rfl) (fun _ _ _ h => h) (by kernel_rfl) (by rfl) ?_ ?_
    rotate_left
    · intro w; first | (go_simp; done) | (go_simp; with_reducible rfl)
    try simp only [Act.put, List.getElem_toArray, List.getElem_cons_zero, List.getElem_cons_succ, List.setIfInBounds_toArray, List.set_cons_zero, List.set_cons_succ]
    refine wpAny_loc (i := 13) (v := ?_) (LN := #[true, true, true, true, true, true, true, true, true, true, true, true, true, true, false, false]) rfl (by kernel_rfl) (by kernel_rfl) (by kernel_rfl) (fun _ _ _ h => h) (by kernel_rfl) (by rfl) ?_ ?_
    rotate_left
    · intro w; first | (go_simp; done) | (go_simp; with_reducible rfl)
    try simp only [Act.put, List.getElem_toArray, List.getElem_cons_zero, List.getElem_cons_succ, List.setIfInBounds_toArray, List.set_cons_zero, List.set_cons_succ]
    refine wpAny_loc (i := 14) (v := ?_) (LN := #[true, true, true, true, true, true, true, true, true, true, true, true, true, true, true, false]) rfl (by kernel_rfl) (by kernel_rfl) (by kernel_rfl) (fun _ _ _ h => h) (by kernel_rfl) (by rfl) ?_ ?_
    rotate_left
    · intro w; first | (go_simp; done) | (go_simp; with_reducible rfl)
    try simp only [Act.put, List.getElem_toArray, List.getElem_cons_zero, List.getElem_cons_succ, List.setIfInBounds_toArray, List.set_cons_zero, List.set_cons_succ]
    refine wpAny_loc (i := 15) (v := ?_) (LN := #[true, true, true, true, true, true, true, true, true, true, true, true, true, true, true, true]) rfl (by kernel_rfl) (by kernel_rfl) (by kernel_rfl) (fun _ _ _ h => h) (by kernel_rfl) (by rfl) ?_ ?_
    rotate_left
    · intro w; first | (go_simp; done) | (go_simp; with_reducible rfl)
    try simp only [Act.put, List.getElem_toArray, List.getElem_cons_zero, List.getElem_cons_succ, List.setIfInBounds_toArray, List.set_cons_zero, List.set_cons_succ]
    refine ⟨by kernel_rfl, ?_⟩
    try simp only [Act.put, List.getElem_toArray, List.getElem_cons_zero, List.getElem_cons_succ, List.setIfInBounds_toArray, List.set_cons_zero, List.set_cons_succ]
    clear hcs S2
    have hcs := HC.out _ _ (S3.sel [4])
    go_wp2_with (first
      | (go_at_call 18; refine (HHD.out _ _ (S3.sel [7]) (fun w' h => HR.out _ _ _ (h.tail.tail.sel [2, 2, 2]))).mono ?_; unfold HeardD; rintro e w4 ⟨ra4, rc4, oa4, oc4, rfl, S4⟩; dsimp only at S4 ⊢)
      | (go_at_call 19; refine (rows_any (brs_rows (S5.sel [4])).1 (brs_rows (S5.sel [1])).1 (brs_rows (S5.sel [1])).2.1 HB2.out (brs_rows (S5.sel [1])).2.2).mono ?_; rintro e w6 ⟨rfl, nq6, hq⟩; have S6 : Sat W0 w6 _ := hq ▸ S5.drewN nq6; clear hq)
      | (go_at_call 19; refine (rows_any (brs_rows (S4.sel [3])).1 (brs_rows S4).1 (brs_rows S4).2.1 HB1.out (brs_rows S4).2.2).mono ?_; rintro e w5 ⟨rfl, nq5, hq⟩; have S5 : Sat W0 w5 _ := hq ▸ S4.drewN nq5; clear hq)
      | (go_at_call 40; refine (stands_any (S6.sel [6]).own_rd (HR.out _ _ _ (((S6.sel [0, 0, 1, 1]).tail.tail.tail.tail.sel [2]).tail.sel [2, 2, 2])) (by rw [HM.out]) HM.out hcp (by omega)).mono ?_; rintro e w7 ⟨rfl, nq7, hq⟩; have S7 : Sat W0 w7 _ := hq ▸ S6.drewN nq7; clear hq)
      | (go_at_call 41; refine (spoil_any (S7.sel [6]) (by omega)).mono ?_; rintro e w8 ⟨rfl, S8⟩; have S9 := WAY_in rfl (S8.sel [7, 7]); have S10 := (BW2_open.2 ⟨wa, wc, S9.sel [7]⟩).sel [0, 1])
      | (go_at_call 23; refine (out_any16 (by omega) S10 HB3.out (by omega) hps).mono ?_; rintro e w11 ⟨rfl, S11⟩))
    go_ret
    exact ⟨rfl, (S11.sel [1, 1, 2, 2]).tail.tail.tail.tail.sel [0, 1]⟩
end Go.Proofs.Ytdgalljalcediaa
end

section
namespace Go.Proofs.Ytdgalljalcediaa
open Go.RowKit Go.Sep Go.Oct
set_option linter.unusedSimpArgs false

theorem Try.sizeK : (Try.prog.info? 58).map (·.size) = some 2 := by kernel_rfl
theorem own_nextN {W0 w : World} {L : List Asn} {e : TypeId} {size b off n cap : Nat} {xs ys : List Value} (hx : xs.length = size) (S : Sat W0 w (slc e size (some ⟨b, off, none⟩) (n + 1) cap (xs ++ ys) :: L)) : Sat W0 w (slc e size (some ⟨b, off + size, none⟩) n (cap - 1) ys :: L) := by
  obtain ⟨b', pre, post, h0, h1, h2, h3, h4, S1⟩ := Sat.own_some.1 S
  cases h0
  rw [List.length_append, hx, Nat.add_mul, Nat.one_mul] at h1
  refine Sat.own_some.2 ⟨b, pre ++ xs, post, by rw [List.length_append, hx], by omega, by omega, by omega, ?_, by simpa only [List.append_assoc] using S1⟩
  rw [show cap - 1 - n = cap - (n + 1) by omega]
  exact h4
theorem own_lastN {W0 w : World} {L : List Asn} {e : TypeId} {size b off n : Nat} {xs ys : List Value} (_hs : 0 < size) (hx : xs.length = size) (S : Sat W0 w (slc e size (some ⟨b, off, none⟩) (n + 1) 1 (xs ++ ys) :: L)) : n = 0 ∧ ys = [] ∧ Sat W0 w (slc e size (some ⟨b, off, none⟩) 0 0 [] :: L) := by
  obtain ⟨b', pre, post, h0, h1, h2, h3, h4, S1⟩ := Sat.own_some.1 S
  cases h0
  obtain rfl : n = 0 := by omega
  rw [List.length_append, hx] at h1
  obtain rfl : ys = [] := List.eq_nil_of_length_eq_zero (by omega)
  refine ⟨rfl, rfl, Sat.own_some.2 ⟨b, pre, xs ++ post, rfl, by simp, by omega, by unfold maxLen; omega, by simp, ?_⟩⟩
  simpa using S1
theorem rowsB_pop {W0 w : World} {L : List Asn} {h : Hd} {hs : List Hd} {r : List Int} {rs : List (List Int)} (S : Sat W0 w (rowsB (h :: hs) (r :: rs) :: L)) : Sat W0 w (sbs h.1 r.length h.2.2 r :: rowsB hs rs :: L) ∧ h.2.1 = r.length := by
  have S1 := Sat.star.1 S
  obtain ⟨h1, S2⟩ := Sat.pure.1 S1.swap
  exact ⟨S2.swap, h1⟩
theorem rowsB_cat {W0 w : World} : ∀ {L : List Asn} {hs ks : List Hd} {rs qs : List (List Int)}, Sat W0 w (rowsB hs rs :: rowsB ks qs :: L) → Sat W0 w (rowsB (hs ++ ks) (rs ++ qs) :: L)
  | L, [], ks, [], qs, S => S.tail
  | L, h :: hs, ks, r :: rs, qs, S => by
    have S1 := Sat.star.1 S
    obtain ⟨h1, S2⟩ := Sat.pure.1 S1.swap
    have S3 := rowsB_cat (L := sbs h.1 r.length h.2.2 r :: L) (S2.sel [0, 1])
    exact Sat.star.2 (Sat.swap (Sat.pure.2 ⟨h1, S3⟩))
  | L, [], _, _ :: _, _, S => absurd (Sat.pure.1 S).1 id
  | L, _ :: _, _, [], _, S => absurd (Sat.pure.1 S).1 id
theorem brs_cat {W0 w : World} {L : List Asn} {ao : Option Addr} {n m cap : Nat} {hs ks : List Hd} {rs qs : List (List Int)} (h1 : rs.length = n) (h2 : qs.length = m)
    (S : Sat W0 w (slc 29 1 ao (n + m) cap (hs.map hv ++ ks.map hv) :: rowsB hs rs :: rowsB ks qs :: L)) : Sat W0 w (brs ao (n + m) cap (rs ++ qs) :: L) := by
  have S1 := rowsB_cat (S.sel [1, 1])
  rw [← List.map_append] at S1
  exact brs_in (by rw [List.length_append, h1, h2]) S1.swap
theorem drop_tail {W0 w : World} {L : List Asn} {A : Asn} (n : Nat) (As : List Asn) (_ : As.length = n) (S : Sat W0 w (A :: (As ++ L))) : Sat W0 w (As ++ L) := S.tail
end Go.Proofs.Ytdgalljalcediaa
end

section
namespace Go.Proofs.Ytdgalljalcediaa
open Go.RowKit Go.Sep Go.Oct

theorem rowsB_nil {W0 w : World} {L : List Asn} (S : Sat W0 w L) : Sat W0 w (rowsB [] [] :: L) := (show Sat W0 w (emp :: L) from S.emp)
theorem rowsB_cons {W0 w : World} {L : List Asn} {h : Hd} {hs : List Hd} {r : List Int} {rs : List (List Int)} (e : h.2.1 = r.length) (S : Sat W0 w (sbs h.1 r.length h.2.2 r :: rowsB hs rs :: L)) : Sat W0 w (rowsB (h :: hs) (r :: rs) :: L) :=
  Sat.star.2 (Sat.swap (Sat.pure.2 ⟨e, S.swap⟩))
theorem rowsB_split {W0 w : World} : ∀ {L : List Asn} {hs : List Hd} {rs : List (List Int)} (k : Nat), Sat W0 w (rowsB hs rs :: L) → Sat W0 w (rowsB (hs.take k) (rs.take k) :: rowsB (hs.drop k) (rs.drop k) :: L)
  | L, hs, rs, 0, S => by simpa using rowsB_nil S
  | L, [], [], k + 1, S => by simpa using rowsB_nil S
  | L, h :: hs, r :: rs, k + 1, S => by
    obtain ⟨S1, e⟩ := rowsB_pop S
    have S2 := rowsB_split (L := sbs h.1 r.length h.2.2 r :: L) k S1.swap
    exact rowsB_cons e (S2.sel [2, 0, 0])
  | L, [], _ :: _, k + 1, S => absurd (Sat.pure.1 S).1 id
  | L, _ :: _, [], k + 1, S => absurd (Sat.pure.1 S).1 id
/-- the k-th row taken out -/
theorem rowsB_pick {W0 w : World} {L : List Asn} {hs : List Hd} {rs : List (List Int)} {k : Nat} {h : Hd} {r : List Int} (hh : hs[k]? = some h) (hr : rs[k]? = some r) (S : Sat W0 w (rowsB hs rs :: L)) :
    Sat W0 w (sbs h.1 r.length h.2.2 r :: rowsB (hs.take k ++ hs.drop (k + 1)) (rs.take k ++ rs.drop (k + 1)) :: L) ∧ h.2.1 = r.length := by
  have S1 := rowsB_split k S
  obtain ⟨k1, e1⟩ := List.getElem?_eq_some_iff.1 hh
  obtain ⟨k2, e2⟩ := List.getElem?_eq_some_iff.1 hr
  rw [List.drop_eq_getElem_cons k1, List.drop_eq_getElem_cons k2, e1, e2] at S1
  obtain ⟨S2, e⟩ := rowsB_pop (S1.sel [1])
  exact ⟨(rowsB_cat (S2.sel [2, 1])).swap, e⟩
end Go.Proofs.Ytdgalljalcediaa
end

section
namespace Go.Proofs.Ytdgalljalcediaa
open Go.RowKit Go.Sep Go.Oct

def gr (xs : List (Sl Int)) : List (List Int) := xs.map (·.xs)
theorem gr_at {xs : List (Sl Int)} {k : Nat} {x : Sl Int} (h : xs[k]? = some x) : (gr xs)[k]? = some x.xs := by unfold gr; rw [List.getElem?_map, h]; rfl
theorem BRows.rows {w : World} {s : Sl (Sl Int)} (h : BRows w s) {w' : World} (hb : Below w.heap.size w w') : RdRows w' s.ao (gr s.xs) := by
  intro i r hr
  unfold gr at hr
  rw [List.getElem?_map] at hr
  obtain ⟨x, hx, rfl⟩ : ∃ x, s.xs[i]? = some x ∧ x.xs = r := by
    cases hx : s.xs[i]? with
    | none => rw [hx] at hr; cases hr
    | some x => rw [hx] at hr; exact ⟨x, rfl, by simpa using hr⟩
  obtain ⟨b, off, ha, hc, hr⟩ := h.row i x hx
  refine ⟨b, off, x.ao, x.cap, ha, ?_, hr.rd.below hb⟩
  rw [hr.len, ← hc]
  exact World.cell?_of_block (hb.block b (World.block_lt_of_cell? w _ hc))
theorem BRows.cell {w : World} {s : Sl (Sl Int)} (h : BRows w s) {k : Nat} {x : Sl Int} (hx : s.xs[k]? = some x) : ∃ b off, s.ao = some ⟨b, off, none⟩ ∧ BRow w x ∧ ∀ w', Below w.heap.size w w' → w'.cell? ⟨b, off + k, none⟩ = some (.slice x.ao x.len x.cap) := by
  obtain ⟨b, off, ha, hc, hr⟩ := h.row k x hx
  refine ⟨b, off, ha, hr, fun w' hb => ?_⟩
  rw [← hc]
  exact World.cell?_of_block (hb.block b (World.block_lt_of_cell? w _ hc))
theorem out0_any {W0 w : World} {L : List Asn} {x p0 p1 q0 q1 : Nat} {ps : List (Int × List Int)} {lo : Option Addr} {n c : Nat} {rs : List (List Int)} (S : Sat W0 w (BW2 x p0 p1 q0 q1 ps :: brs lo n c rs :: L)) (hsm : ∀ r ∈ rs, r.length ≤ 1000000) (hn9 : n ≤ 100000) (hps : ps.length ≤ 100000000) :
    Calls Try.prog 23 #[.pointer (some ⟨x, 0, none⟩), .int .i64 0, .slice lo n c] w fun e' w' => e' = .returned (.tuple #[]) ∧ Sat W0 w' (BW2 x p0 p1 q0 q1 (ps ++ rs.map fun r => ((1 : Int), r)) :: brs lo n c rs :: L) := by
  have := out_any16 (e := 0) (by omega) S hsm hn9 hps
  simpa using this
theorem out1_any {W0 w : World} {L : List Asn} {x p0 p1 q0 q1 : Nat} {ps : List (Int × List Int)} {lo : Option Addr} {n c : Nat} {rs : List (List Int)} (S : Sat W0 w (BW2 x p0 p1 q0 q1 ps :: brs lo n c rs :: L)) (hsm : ∀ r ∈ rs, r.length ≤ 1000000) (hn9 : n ≤ 100000) (hps : ps.length ≤ 100000000) :
    Calls Try.prog 23 #[.pointer (some ⟨x, 0, none⟩), .int .i64 1, .slice lo n c] w fun e' w' => e' = .returned (.tuple #[]) ∧ Sat W0 w' (BW2 x p0 p1 q0 q1 (ps ++ rs.map fun r => ((0 : Int), r)) :: brs lo n c rs :: L) := by
  have := out_any16 (e := 1) (by omega) S hsm hn9 hps
  simpa using this
end Go.Proofs.Ytdgalljalcediaa
end

section
namespace Go.Proofs.Ytdgalljalcediaa
open Go.RowKit Go.Sep Go.Oct
set_option linter.unusedSimpArgs false

/-- what a step leaves -/
def DoesPost (W0 : World) (L : List Asn) (x p0 p1 q0 q1 : Nat) (ps : List (Int × List Int)) (pe qe : Nat) (s : LS) (e : Ending) (w' : World) : Prop :=
  e = .returned (.bool true) ∧ Sat W0 w' (BW2 x p0 p1 q0 q1 ps :: PL pe s :: DL qe s :: L)
theorem cellsBK {W0 w' : World} {M : List Asn} {x p0 p1 q0 q1 : Nat} {v : Value} (h : Sat W0 w' (BK x p0 p1 q0 q1 v :: M)) :
    w'.cell? ⟨x, 0, none⟩ = some (.pointer (some ⟨p0, 0, none⟩)) ∧ w'.cell? ⟨x, 1, none⟩ = some (.pointer (some ⟨p1, 0, none⟩)) ∧ w'.cell? ⟨x, 2, none⟩ = some (.pointer (some ⟨q0, 0, none⟩)) ∧ w'.cell? ⟨x, 3, none⟩ = some (.pointer (some ⟨q1, 0, none⟩)) ∧ w'.cell? ⟨x, 4, none⟩ = some v :=
  ⟨(h.cell 0 rfl 0 : _), (h.cell 0 rfl 1 : _), (h.cell 0 rfl 2 : _), (h.cell 0 rfl 3 : _), (h.cell 0 rfl 4 : _)⟩

set_option maxRecDepth 100000 in
set_option maxHeartbeats 6400000 in
theorem does_send0 {W0 w : World} {L : List Asn} {x p0 p1 q0 q1 : Nat} {ps : List (Int × List Int)} {s : LS} {N : Int} (S : Sat W0 w (BW2 x p0 p1 q0 q1 ps :: PL p0 s :: DL q0 s :: L)) (ok : s.Ok N) (hN : N ≤ 900000000000) (hps : ps.length ≤ 100000000)
    {en n ack : Int} (hen : bits .and .i64 en 1 = 0) {a : Option Addr} {m c : Nat} {b : List Int} (hR : Rd W0 a (bv b)) (hm : b.length = m) (hB : Bytes b) (hb : m ≤ 100000000) :
    Calls Try.prog 25 #[.pointer (some ⟨x, 0, none⟩), .agg #[.int .i64 1, .int .i64 en, .int .i64 n, .int .i64 ack, .slice a m c]] w (DoesPost W0 L x p0 p1 q0 q1 (ps ++ (sendP s b).1.map fun r => ((1 : Int), r)) p0 q0 (sendP s b).2.2) := by
  obtain ⟨wa, wc, Sx⟩ := BW2_open.1 S
  have S1 := Sx.alloc [.int .i64 1, .int .i64 en, .int .i64 n, .int .i64 ack, .slice a m c] 66
  have HSE := Lib.hid (fun (w' : World) (M : List Asn) (ad : Option Addr) (cp : Nat) (h : Sat W0 w' (PL p0 s :: M)) (hR : Rd w' ad (bv b)) (h0 : ad = none → cp = 0) => send_any (m := m) (c := cp) h ok (by omega) hR hm h0 hB (by omega))
  have HSD := Lib.hid (fun (w' : World) (M : List Asn) (h : Sat W0 w' (DL q0 s :: M)) => r16send_any (c := c) h ok (by omega) (fun w' h => hR.below h.below) hm hB (by omega))
  have hsm := ok.sendOut (by omega) hB (p := b)
  have HB2 := Lib.hid (small_len hsm)
  have HB3 : Hid (∀ r ∈ (sendP s b).1, r.length ≤ 1000000) := fun r hr => by have := (hsm r hr).2; omega
  have hol := send_outs_len (s := s) (p := b)
  generalize sendP s b = R at HSE HSD HB2 HB3 hol ⊢
  obtain ⟨ou1, er, s2⟩ := R
  dsimp only at HB2 HB3 hol
  have HM := Lib.hid hm
  have HR : Hid (∀ w' M, Sat W0 w' M → Rd w' a (bv b)) := fun w' M h => hR.below h.below
  have hee : ((er : Int) == er) = true := by simp
  clear hm hR hB hsm ok hN Sx S
  have hg1 := S1.cell 0 rfl 1
  have hg0 := S1.cell 0 rfl 0
  have hg4 := S1.cell 0 rfl 4
  simp only [List.getElem?_cons_zero, List.getElem?_cons_succ] at hg1 hg0 hg4
  go_enter Try.func25, Try.ntmps25
  go_upto_region 1 with fail
  change Sat W0 (w.alloc _) _ at S1
  generalize w.alloc _ = w1 at S1 hg0 hg1 hg4 ⊢
  generalize w.heap.size = g at S1 hg0 hg1 hg4 ⊢
  go_upto_region 5 with (first
    | (go_at_call 38; refine (roomy_any S1 (fun w' h => HR.out _ _ h) HM.out (by omega)).mono ?_; rintro e w2 ⟨ad, cp, rfl, S2⟩; have hcp := (sbs_rd S2).2.2.1))
  clear hg0 hg1 hg4 S1 hen
  refine wp_region_drawn (N := 17) (LN := #[false, false, false, false, false, false, false, false, false, false, false, false, false, false, false, false, false]) (by kernel_rfl) (by kernel_rfl) (by kernel_rfl) ?_
  have S3 := S2.drew
  generalize w2.drew = w3 at S3 ⊢
  clear S2
  obtain ⟨hcs0, hcs1, hcs2, hcs3, -⟩ := cellsBK (S3.sel [2])
  have hg4 := S3.cell 1 rfl 4
  simp only [List.getElem?_cons_zero, List.getElem?_cons_succ] at hg4
  have hmcp : m ≤ cp := by omega
  refine wpAny_seg 0 11 6 17 #[true, true, true, true, true, true, true, true, true, true, true, false, false, false, false, false, false] (by kernel_rfl) (by kernel_rfl) ?_
  simp only [List.take_succ_cons, List.take_zero, List.drop_succ_cons, List.drop_zero]
  refine wpStill_step (fun K hK => ?_); go_simp; refine hK _ ?_; clear hK K
  try simp only [Act.put, List.getElem_toArray, List.getElem_cons_zero, List.getElem_cons_succ, List.setIfInBounds_toArray, List.set_cons_zero, List.set_cons_succ]
  refine wpStill_step (fun K hK => ?_); go_simp; refine hK _ ?_; clear hK K
  try simp only [Act.put, List.getElem_toArray, List.getElem_cons_zero, List.getElem_cons_succ, List.setIfInBounds_toArray, List.set_cons_zero, List.set_cons_succ]
  refine wpStill_step (fun K hK => ?_); go_simp; refine hK _ ?_; clear hK K
  try simp only [Act.put, List.getElem_toArray, List.getElem_cons_zero, List.getElem_cons_succ, List.setIfInBounds_toArray, List.set_cons_zero, List.set_cons_succ]
  refine wpStill_step (fun K hK => ?_); go_simp; refine hK _ ?_; clear hK K
  try simp only [Act.put, List.getElem_toArray, List.getElem_cons_zero, List.getElem_cons_succ, List.setIfInBounds_toArray, List.set_cons_zero, List.set_cons_succ]
  refine wpStill_step (fun K hK => ?_); go_simp; refine hK _ ?_; clear hK K
  try simp only [Act.put, List.getElem_toArray, List.getElem_cons_zero, List.getElem_cons_succ, List.setIfInBounds_toArray, List.set_cons_zero, List.set_cons_succ]
  refine wpStill_step (fun K hK => ?_); go_simp; refine hK _ ?_; clear hK K
  try simp only [Act.put, List.getElem_toArray, List.getElem_cons_zero, List.getElem_cons_succ, List.setIfInBounds_toArray, List.set_cons_zero, List.set_cons_succ]
  refine wpStill_step (fun K hK => ?_); go_simp; refine hK _ ?_; clear hK K
  try simp only [Act.put, List.getElem_toArray, List.getElem_cons_zero, List.getElem_cons_succ, List.setIfInBounds_toArray, List.set_cons_zero, List.set_cons_succ]
  refine wpStill_step (fun K hK => ?_); go_simp; refine hK _ ?_; clear hK K
  try simp only [Act.put, List.getElem_toArray, List.getElem_cons_zero, List.getElem_cons_succ, List.setIfInBounds_toArray, List.set_cons_zero, List.set_cons_succ]
  refine wpStill_step (fun K hK => ?_); go_simp; refine hK _ ?_; clear hK K
  try simp only [Act.put, List.getElem_toArray, List.getElem_cons_zero, List.getElem_cons_succ, List.setIfInBounds_toArray, List.set_cons_zero, List.set_cons_succ]
  refine wpStill_step (fun K hK => ?_); go_simp; refine hK _ ?_; clear hK K
  try simp only [Act.put, List.getElem_toArray, List.getElem_cons_zero, List.getElem_cons_succ, List.setIfInBounds_toArray, List.set_cons_zero, List.set_cons_succ]
  refine wpStill_step (fun K hK => ?_); go_simp; refine hK _ ?_; clear hK K
  try simp only [Act.put, List.getElem_toArray, List.getElem_cons_zero, List.getElem_cons_succ, List.setIfInBounds_toArray, List.set_cons_zero, List.set_cons_succ]
  refine wpStill_nil ?_
  refine wpAny_one (i := 11) (LN := #[true, true, true, true, true, true, true, true, true, true, true, true, false, false, false, false, false]) (by kernel_rfl) rfl (by kernel_rfl) ?_
  intro K hK
  go_simp
  go_at_call 14
  refine (HSE.out _ _ _ _ (S3.sel [4]) (rd_prefix S3.own_rd) (fun h => by cases h)).mono ?_
  unfold Sent
  rintro e w4 ⟨oa, oc, rfl, S4⟩
  dsimp only at S4 ⊢
  go_wp2_with fail
  refine hK.out _ _ ?_
  clear hK K
  try simp only [Act.put, List.getElem_toArray, List.getElem_cons_zero, List.getElem_cons_succ, List.setIfInBounds_toArray, List.set_cons_zero, List.set_cons_succ]
  refine wpAny_loc (i := 12) (v := ?_) (LN := #[true, true, true, true, true, true, true, true, true, true, true, true, true, false, false, false, false]) rfl (by kernel_rfl) (by kernel_rfl) (by kernel_rfl) (fun _ _ _ h => h) (by kernel_rfl) (by rfl) ?_ ?_
  rotate_left
  · intro w; first | (go_simp; done) | (go_simp; with_reducible rfl)
  try simp only [Act.put, List.getElem_toArray, List.getElem_cons_zero, List.getElem_cons_succ, List.setIfInBounds_toArray, List.set_cons_zero, List.set_cons_succ]
  refine wpAny_loc (i := 13) (v := ?_) (LN := #[true, true, true, true, true, true, true, true, true, true, true, true, true, true, false, false, false]) rfl (by kernel_rfl) (by kernel_rfl) (by kernel_rfl) (fun _ _ _ h => h) (by kernel_rfl) (by rfl) ?_ ?_
  rotate_left
  · intro w; first | (go_simp; done) | (go_simp; with_reducible rfl)
  try simp only [Act.put, List.getElem_toArray, List.getElem_cons_zero, List.getElem_cons_succ, List.setIfInBounds_toArray, List.set_cons_zero, List.set_cons_succ]
  refine wpAny_loc (i := 14) (v := ?_) (LN := #[true, true, true, true, true, true, true, true, true, true, true, true, true, true, true, false, false]) rfl (by kernel_rfl) (by kernel_rfl) (by kernel_rfl) (fun _ _ _ h => h) (by kernel_rfl) (by rfl) ?_ ?_
  rotate_left
  · intro w; first | (go_simp; done) | (go_simp; with_reducible rfl)
  try simp only [Act.put, List.getElem_toArray, List.getElem_cons_zero, List.getElem_cons_succ, List.setIfInBounds_toArray, List.set_cons_zero, List.set_cons_succ]
  refine wpAny_loc (i := 15) (v := ?_) (LN := #[true, true, true, true, true, true, true, true, true, true, true, true, true, true, true, true, false]) rfl (by kernel_rfl) (by kernel_rfl) (by kernel_rfl) (fun _ _ _ h => h) (by kernel_rfl) (by rfl) ?_ ?_
  rotate_left
  · intro w; first | (go_simp; done) | (go_simp; with_reducible rfl)
  try simp only [Act.put, List.getElem_toArray, List.getElem_cons_zero, List.getElem_cons_succ, List.setIfInBounds_toArray, List.set_cons_zero, List.set_cons_succ]
  refine wpAny_loc (i := 16) (v := ?_) (LN := #[true, true, true, true, true, true, true, true, true, true, true, true, true, true, true, true, true]) rfl (by kernel_rfl) (by kernel_rfl) (by kernel_rfl) (fun _ _ _ h => h) (by kernel_rfl) (by rfl) ?_ ?_
  rotate_left
  · intro w; first | (go_simp; done) | (go_simp; with_reducible rfl)
  try simp only [Act.put, List.getElem_toArray, List.getElem_cons_zero, List.getElem_cons_succ, List.setIfInBounds_toArray, List.set_cons_zero, List.set_cons_succ]
  refine ⟨by kernel_rfl, ?_⟩
  try simp only [Act.put, List.getElem_toArray, List.getElem_cons_zero, List.getElem_cons_succ, List.setIfInBounds_toArray, List.set_cons_zero, List.set_cons_succ]
  clear hcs0 hcs1 hcs2 hcs3 hg4 S3
  go_upto_region 6 with fail
  refine wp_region_drawn (N := 14) (LN := #[false, false, false, false, false, false, false, false, false, false, false, false, false, false]) (by kernel_rfl) (by kernel_rfl) (by kernel_rfl) ?_
  have S5 := S4.drew
  generalize w4.drew = w5 at S5 ⊢
  clear S4
  obtain ⟨hcs0, hcs1, hcs2, hcs3, -⟩ := cellsBK (S5.sel [4])
  have hg4 := S5.cell 3 rfl 4
  simp only [List.getElem?_cons_zero, List.getElem?_cons_succ] at hg4
  refine wpAny_seg 0 8 6 14 #[true, true, true, true, true, true, true, true, false, false, false, false, false, false] (by kernel_rfl) (by kernel_rfl) ?_
  simp only [List.take_succ_cons, List.take_zero, List.drop_succ_cons, List.drop_zero]
  refine wpStill_step (fun K hK => ?_); go_simp; refine hK _ ?_; clear hK K
  try simp only [Act.put, List.getElem_toArray, List.getElem_cons_zero, List.getElem_cons_succ, List.setIfInBounds_toArray, List.set_cons_zero, List.set_cons_succ]
  refine wpStill_step (fun K hK => ?_); go_simp; refine hK _ ?_; clear hK K
  try simp only [Act.put, List.getElem_toArray, List.getElem_cons_zero, List.getElem_cons_succ, List.setIfInBounds_toArray, List.set_cons_zero, List.set_cons_succ]
  refine wpStill_step (fun K hK => ?_); go_simp; refine hK _ ?_; clear hK K
  try simp only [Act.put, List.getElem_toArray, List.getElem_cons_zero, List.getElem_cons_succ, List.setIfInBounds_toArray, List.set_cons_zero, List.set_cons_succ]
  refine wpStill_step (fun K hK => ?_); go_simp; refine hK _ ?_; clear hK K
  try simp only [Act.put, List.getElem_toArray, List.getElem_cons_zero, List.getElem_cons_succ, List.setIfInBounds_toArray, List.set_cons_zero, List.set_cons_succ]
  refine wpStill_step (fun K hK => ?_); go_simp; refine hK _ ?_; clear hK K
  try simp only [Act.put, List.getElem_toArray, List.getElem_cons_zero, List.getElem_cons_succ, List.setIfInBounds_toArray, List.set_cons_zero, List.set_cons_succ]
  refine wpStill_step (fun K hK => ?_); go_simp; refine hK _ ?_; clear hK K
  try simp only [Act.put, List.getElem_toArray, List.getElem_cons_zero, List.getElem_cons_succ, List.setIfInBounds_toArray, List.set_cons_zero, List.set_cons_succ]
  refine wpStill_step (fun K hK => ?_); go_simp; refine hK _ ?_; clear hK K
  try simp only [Act.put, List.getElem_toArray, List.getElem_cons_zero, List.getElem_cons_succ, List.setIfInBounds_toArray, List.set_cons_zero, List.set_cons_succ]
  refine wpStill_step (fun K hK => ?_); go_simp; refine hK _ ?_; clear hK K
  try simp only [Act.put, List.getElem_toArray, List.getElem_cons_zero, List.getElem_cons_succ, List.setIfInBounds_toArray, List.set_cons_zero, List.set_cons_succ]
  refine wpStill_nil ?_
  refine wpAny_one (i := 8) (LN := #[true, true, true, true, true, true, true, true, true, false, false, false, false, false]) (by kernel_rfl) rfl (by kernel_rfl) ?_
  intro K hK
  go_simp
  go_at_call 39
  refine (HSD.out _ _ (S5.sel [6])).mono ?_
  unfold SentD
  rintro e w6 ⟨oa6, oc6, rfl, S6⟩
  dsimp only at S6 ⊢
  go_wp2_with fail
  refine hK.out _ _ ?_
  clear hK K
  try simp only [Act.put, List.getElem_toArray, List.getElem_cons_zero, List.getElem_cons_succ, List.setIfInBounds_toArray, List.set_cons_zero, List.set_cons_succ]
  refine wpAny_loc (i := 9) (v := ?_) (LN := #[true, true, true, true, true, true, true, true, true, true, false, false, false, false]) rfl (by kernel_rfl) (by kernel_rfl) (by kernel_rfl) (fun _ _ _ h => h) (by kernel_rfl) (by rfl) ?_ ?_
  rotate_left
  · intro w; first | (go_simp; done) | (go_simp; with_reducible rfl)
  try simp only [Act.put, List.getElem_toArray, List.getElem_cons_zero, List.getElem_cons_succ, List.setIfInBounds_toArray, List.set_cons_zero, List.set_cons_succ]
  refine wpAny_loc (i := 10) (v := ?_) (LN := #[true, true, true, true, true, true, true, true, true, true, true, false, false, false]) rfl (by kernel_rfl) (by kernel_rfl) (by kernel_rfl) (fun _ _ _ h => h) (by kernel_rfl) (by rfl) ?_ ?_
  rotate_left
  · intro w; first | (go_simp; done) | (go_simp; with_reducible rfl)
  try simp only [Act.put, List.getElem_toArray, List.getElem_cons_zero, List.getElem_cons_succ, List.setIfInBounds_toArray, List.set_cons_zero, List.set_cons_succ]
  refine wpAny_loc (i := 11) (v := ?_) (LN := #[true, true, true, true, true, true, true, true, true, true, true, true, false, false]) rfl (by kernel_rfl) (by kernel_rfl) (by kernel_rfl) (fun _ _ _ h => h) (by kernel_rfl) (by rfl) ?_ ?_
  rotate_left
  · intro w; first | (go_simp; done) | (go_simp; with_reducible rfl)
  try simp only [Act.put, List.getElem_toArray, List.getElem_cons_zero, List.getElem_cons_succ, List.setIfInBounds_toArray, List.set_cons_zero, List.set_cons_succ]
  refine wpAny_loc (i := 12) (v := ?_) (LN := #[true, true, true, true, true, true, true, true, true, true, true, true, true, false]) rfl (by kernel_rfl) (by kernel_rfl) (by kernel_rfl) (fun _ _ _ h => h) (by kernel_rfl) (by rfl) ?_ ?_
  rotate_left
  · intro w; first | (go_simp; done) | (go_simp; with_reducible rfl)
  try simp only [Act.put, List.getElem_toArray, List.getElem_cons_zero, List.getElem_cons_succ, List.setIfInBounds_toArray, List.set_cons_zero, List.set_cons_succ]
  refine wpAny_loc (i := 13) (v := ?_) (LN := #[true, true, true, true, true, true, true, true, true, true, true, true, true, true]) rfl (by kernel_rfl) (by kernel_rfl) (by kernel_rfl) (fun _ _ _ h => h) (by kernel_rfl) (by rfl) ?_ ?_
  rotate_left
  · intro w; first | (go_simp; done) | (go_simp; with_reducible rfl)
  try simp only [Act.put, List.getElem_toArray, List.getElem_cons_zero, List.getElem_cons_succ, List.setIfInBounds_toArray, List.set_cons_zero, List.set_cons_succ]
  refine ⟨by kernel_rfl, ?_⟩
  try simp only [Act.put, List.getElem_toArray, List.getElem_cons_zero, List.getElem_cons_succ, List.setIfInBounds_toArray, List.set_cons_zero, List.set_cons_succ]
  clear hcs0 hcs1 hcs2 hcs3 hg4 S5
  have hg4 := S6.cell 5 rfl 4
  simp only [List.getElem?_cons_zero, List.getElem?_cons_succ] at hg4
  go_wp2_with (first
    | (go_at_call 19; refine (rows_any (brs_rows (S6.sel [2])).1 (brs_rows S6).1 (brs_rows S6).2.1 HB2.out (brs_rows S6).2.2).mono ?_; rintro e w7 ⟨rfl, nq7, hq⟩; have S7 : Sat W0 w7 _ := hq ▸ S6.drewN nq7; clear hq; have hg47 := S7.cell 5 rfl 4; simp only [List.getElem?_cons_zero, List.getElem?_cons_succ] at hg47)
    | (go_at_call 40; refine (stands_any (S7.sel [4]).own_rd (HR.out _ _ S7) (by rw [HM.out]) HM.out hcp (by omega)).mono ?_; rintro e w8 ⟨rfl, nq8, hq⟩; have S8 : Sat W0 w8 _ := hq ▸ S7.drewN nq8; clear hq)
    | (go_at_call 41; refine (spoil_any (S8.sel [4]) (by omega)).mono ?_; rintro e w9 ⟨rfl, S9⟩; have S10 := (BW2_open.2 ⟨wa, wc, S9.sel [5, 5]⟩))
    | (go_at_call 23; refine (out0_any S10 HB3.out (by omega) hps).mono ?_; rintro e w11 ⟨rfl, S11⟩))
  go_ret
  exact ⟨rfl, (S11.sel [1, 2, 3]).tail.tail.tail.sel [0, 1]⟩

set_option maxRecDepth 100000 in
set_option maxHeartbeats 6400000 in
theorem does_send1 {W0 w : World} {L : List Asn} {x p0 p1 q0 q1 : Nat} {ps : List (Int × List Int)} {s : LS} {N : Int} (S : Sat W0 w (BW2 x p0 p1 q0 q1 ps :: PL p1 s :: DL q1 s :: L)) (ok : s.Ok N) (hN : N ≤ 900000000000) (hps : ps.length ≤ 100000000)
    {en n ack : Int} (hen : bits .and .i64 en 1 = 1) {a : Option Addr} {m c : Nat} {b : List Int} (hR : Rd W0 a (bv b)) (hm : b.length = m) (hB : Bytes b) (hb : m ≤ 100000000) :
    Calls Try.prog 25 #[.pointer (some ⟨x, 0, none⟩), .agg #[.int .i64 1, .int .i64 en, .int .i64 n, .int .i64 ack, .slice a m c]] w (DoesPost W0 L x p0 p1 q0 q1 (ps ++ (sendP s b).1.map fun r => ((0 : Int), r)) p1 q1 (sendP s b).2.2) := by
  obtain ⟨wa, wc, Sx⟩ := BW2_open.1 S
  have S1 := Sx.alloc [.int .i64 1, .int .i64 en, .int .i64 n, .int .i64 ack, .slice a m c] 66
  have HSE := Lib.hid (fun (w' : World) (M : List Asn) (ad : Option Addr) (cp : Nat) (h : Sat W0 w' (PL p1 s :: M)) (hR : Rd w' ad (bv b)) (h0 : ad = none → cp = 0) => send_any (m := m) (c := cp) h ok (by omega) hR hm h0 hB (by omega))
  have HSD := Lib.hid (fun (w' : World) (M : List Asn) (h : Sat W0 w' (DL q1 s :: M)) => r16send_any (c := c) h ok (by omega) (fun w' h => hR.below h.below) hm hB (by omega))
  have hsm := ok.sendOut (by omega) hB (p := b)
  have HB2 := Lib.hid (small_len hsm)
  have HB3 : Hid (∀ r ∈ (sendP s b).1, r.length ≤ 1000000) := fun r hr => by have := (hsm r hr).2; omega
  have hol := send_outs_len (s := s) (p := b)
  generalize sendP s b = R at HSE HSD HB2 HB3 hol ⊢
  obtain ⟨ou1, er, s2⟩ := R
  dsimp only at HB2 HB3 hol
  have HM := Lib.hid hm
  have HR : Hid (∀ w' M, Sat W0 w' M → Rd w' a (bv b)) := fun w' M h => hR.below h.below
  have hee : ((er : Int) == er) = true := by simp
  clear hm hR hB hsm ok hN Sx S
  have hg1 := S1.cell 0 rfl 1
  have hg0 := S1.cell 0 rfl 0
  have hg4 := S1.cell 0 rfl 4
  simp only [List.getElem?_cons_zero, List.getElem?_cons_succ] at hg1 hg0 hg4
  go_enter Try.func25, Try.ntmps25
  go_upto_region 1 with fail
  change Sat W0 (w.alloc _) _ at S1
  generalize w.alloc _ = w1 at S1 hg0 hg1 hg4 ⊢
  generalize w.heap.size = g at S1 hg0 hg1 hg4 ⊢
  go_upto_region 5 with (first
    | (go_at_call 38; refine (roomy_any S1 (fun w' h => HR.out _ _ h) HM.out (by omega)).mono ?_; rintro e w2 ⟨ad, cp, rfl, S2⟩; have hcp := (sbs_rd S2).2.2.1))
  clear hg0 hg1 hg4 S1 hen
  refine wp_region_drawn (N := 17) (LN := #[false, false, false, false, false, false, false, false, false, false, false, false, false, false, false, false, false]) (by kernel_rfl) (by kernel_rfl) (by kernel_rfl) ?_
  have S3 := S2.drew
  generalize w2.drew = w3 at S3 ⊢
  clear S2
  obtain ⟨hcs0, hcs1, hcs2, hcs3, -⟩ := cellsBK (S3.sel [2])
  have hg4 := S3.cell 1 rfl 4
  simp only [List.getElem?_cons_zero, List.getElem?_cons_succ] at hg4
  have hmcp : m ≤ cp := by omega
  refine wpAny_seg 0 11 6 17 #[true, true, true, true, true, true, true, true, true, true, true, false, false, false, false, false, false] (by kernel_rfl) (by kernel_rfl) ?_
  simp only [List.take_succ_cons, List.take_zero, List.drop_succ_cons, List.drop_zero]
  refine wpStill_step (fun K hK => ?_); go_simp; refine hK _ ?_; clear hK K
  try simp only [Act.put, List.getElem_toArray, List.getElem_cons_zero, List.getElem_cons_succ, List.setIfInBounds_toArray, List.set_cons_zero, List.set_cons_succ]
  refine wpStill_step (fun K hK => ?_); go_simp; refine hK _ ?_; clear hK K
  try simp only [Act.put, List.getElem_toArray, List.getElem_cons_zero, List.getElem_cons_succ, List.setIfInBounds_toArray, List.set_cons_zero, List.set_cons_succ]
  refine wpStill_step (fun K hK => ?_); go_simp; refine hK _ ?_; clear hK K
  try simp only [Act.put, List.getElem_toArray, List.getElem_cons_zero, List.getElem_cons_succ, List.setIfInBounds_toArray, List.set_cons_zero, List.set_cons_succ]
  refine wpStill_step (fun K hK => ?_); go_simp; refine hK _ ?_; clear hK K
  try simp only [Act.put, List.getElem_toArray, List.getElem_cons_zero, List.getElem_cons_succ, List.setIfInBounds_toArray, List.set_cons_zero, List.set_cons_succ]
  refine wpStill_step (fun K hK => ?_); go_simp; refine hK _ ?_; clear hK K
  try simp only [Act.put, List.getElem_toArray, List.getElem_cons_zero, List.getElem_cons_succ, List.setIfInBounds_toArray, List.set_cons_zero, List.set_cons_succ]
  refine wpStill_step (fun K hK => ?_); go_simp; refine hK _ ?_; clear hK K
  try simp only [Act.put, List.getElem_toArray, List.getElem_cons_zero, List.getElem_cons_succ, List.setIfInBounds_toArray, List.set_cons_zero, List.set_cons_succ]
  refine wpStill_step (fun K hK => ?_); go_simp; refine hK _ ?_; clear hK K
  try simp only [Act.put, List.getElem_toArray, List.getElem_cons_zero, List.getElem_cons_succ, List.setIfInBounds_toArray, List.set_cons_zero, List.set_cons_succ]
  refine wpStill_step (fun K hK => ?_); go_simp; refine hK _ ?_; clear hK K
  try simp only [Act.put, List.getElem_toArray, List.getElem_cons_zero, List.getElem_cons_succ, List.setIfInBounds_toArray, List.set_cons_zero, List.set_cons_succ]
  refine wpStill_step (fun K hK => ?_); go_simp; refine hK _ ?_; clear hK K
  try simp only [Act.put, List.getElem_toArray, List.getElem_cons_zero, List.getElem_cons_succ, List.setIfInBounds_toArray, List.set_cons_zero, List.set_cons_succ]
  refine wpStill_step (fun K hK => ?_); go_simp; refine hK _ ?_; clear hK K
  try simp only [Act.put, List.getElem_toArray, List.getElem_cons_zero, List.getElem_cons_succ, List.setIfInBounds_toArray, List.set_cons_zero, List.set_cons_succ]
  refine wpStill_step (fun K hK => ?_); go_simp; refine hK _ ?_; clear hK K
  try simp only [Act.put, List.getElem_toArray, List.getElem_cons_zero, List.getElem_cons_succ, List.setIfInBounds_toArray, List.set_cons_zero, List.set_cons_succ]
  refine wpStill_nil ?_
  refine wpAny_one (i := 11) (LN := #[true, true, true, true, true, true, true, true, true, true, true, true, false, false, false, false, false]) (by kernel_rfl) rfl (by kernel_rfl) ?_
  intro K hK
  go_simp
  go_at_call 14
  refine (HSE.out _ _ _ _ (S3.sel [4]) (rd_prefix S3.own_rd) (fun h => by cases h)).mono ?_
  unfold Sent
  rintro e w4 ⟨oa, oc, rfl, S4⟩
  dsimp only at S4 ⊢
  go_wp2_with fail
  refine hK.out _ _ ?_
  clear hK K
  try simp only [Act.put, List.getElem_toArray, List.getElem_cons_zero, List.getElem_cons_succ, List.setIfInBounds_toArray, List.set_cons_zero, List.set_cons_succ]
  refine wpAny_loc (i := 12) (v := ?_) (LN := #[true, true, true, true, true, true, true, true, true, true, true, true, true, false, false, false, false]) rfl (by kernel_rfl) (by kernel_rfl) (by kernel_rfl) (fun _ _ _ h => h) (by kernel_rfl) (by rfl) ?_ ?_
  rotate_left
  · intro w; first | (go_simp; done) | (go_simp; with_reducible rfl)
  try simp only [Act.put, List.getElem_toArray, List.getElem_cons_zero, List.getElem_cons_succ, List.setIfInBounds_toArray, List.set_cons_zero, List.set_cons_succ]
  refine wpAny_loc (i := 13) (v := ?_) (LN := #[true, true, true, true, true, true, true, true, true, true, true, true, true, true, false, false, false]) rfl (by kernel_rfl) (by kernel_rfl) (by kernel_rfl) (fun _ _ _ h => h) (by kernel_rfl) (by rfl) ?_ ?_
  rotate_left
  · intro w; first | (go_simp; done) | (go_simp; with_reducible rfl)
  try simp only [Act.put, List.getElem_toArray, List.getElem_cons_zero, List.getElem_cons_succ, List.setIfInBounds_toArray, List.set_cons_zero, List.set_cons_succ]
  refine wpAny_loc (i := 14) (v := ?_) (LN := #[true, true, true, true, true, true, true, true, true, true, true, true, true, true, true, false, false]) rfl (by kernel_rfl) (by kernel_rfl) (by kernel_rfl) (fun _ _ _ h => h) (by kernel_rfl) (by rfl) ?_ ?_
  rotate_left
  · intro w; first | (go_simp; done) | (go_simp; with_reducible rfl)
  try simp only [Act.put, List.getElem_toArray, List.getElem_cons_zero, List.getElem_cons_succ, List.setIfInBounds_toArray, List.set_cons_zero, List.set_cons_succ]
  refine wpAny_loc (i := 15) (v := ?_) (LN := #[true, true, true, true, true, true, true, true, true, true, true, true, true, true, true, true, false]) rfl (by kernel_rfl) (by kernel_rfl) (by kernel_rfl) (fun _ _ _ h => h) (by kernel_rfl) (by rfl) ?_ ?_
  rotate_left
  · intro w; first | (go_simp; done) | (go_simp; with_reducible rfl)
  try simp only [Act.put, List.getElem_toArray, List.getElem_cons_zero, List.getElem_cons_succ, List.setIfInBounds_toArray, List.set_cons_zero, List.set_cons_succ]
  refine wpAny_loc (i := 16) (v := ?_) (LN := #[true, true, true, true, true, true, true, true, true, true, true, true, true, true, true, true, true]) rfl (by kernel_rfl) (by kernel_rfl) (by kernel_rfl) (fun _ _ _ h => h) (by kernel_rfl) (by rfl) ?_ ?_
  rotate_left
  · intro w; first | (go_simp; done) | (go_simp; with_reducible rfl)
  try simp only [Act.put, List.getElem_toArray, List.getElem_cons_zero, List.getElem_cons_succ, List.setIfInBounds_toArray, List.set_cons_zero, List.set_cons_succ]
  refine ⟨by kernel_rfl, ?_⟩
  try simp only [Act.put, List.getElem_toArray, List.getElem_cons_zero, List.getElem_cons_succ, List.setIfInBounds_toArray, List.set_cons_zero, List.set_cons_succ]
  clear hcs0 hcs1 hcs2 hcs3 hg4 S3
  go_upto_region 6 with fail
  refine wp_region_drawn (N := 14) (LN := #[false, false, false, false, false, false, false, false, false, false, false, false, false, false]) (by kernel_rfl) (by kernel_rfl) (by kernel_rfl) ?_
  have S5 := S4.drew
  generalize w4.drew = w5 at S5 ⊢
  clear S4
  obtain ⟨hcs0, hcs1, hcs2, hcs3, -⟩ := cellsBK (S5.sel [4])
  have hg4 := S5.cell 3 rfl 4
  simp only [List.getElem?_cons_zero, List.getElem?_cons_succ] at hg4
  refine wpAny_seg 0 8 6 14 #[true, true, true, true, true, true, true, true, false, false, false, false, false, false] (by kernel_rfl) (by kernel_rfl) ?_
  simp only [List.take_succ_cons, List.take_zero, List.drop_succ_cons, List.drop_zero]
  refine wpStill_step (fun K hK => ?_); go_simp; refine hK _ ?_; clear hK K
  try simp only [Act.put, List.getElem_toArray, List.getElem_cons_zero, List.getElem_cons_succ, List.setIfInBounds_toArray, List.set_cons_zero, List.set_cons_succ]
  refine wpStill_step (fun K hK => ?_); go_simp; refine hK _ ?_; clear hK K
  try simp only [Act.put, List.getElem_toArray, List.getElem_cons_zero, List.getElem_cons_succ, List.setIfInBounds_toArray, List.set_cons_zero, List.set_cons_succ]
  refine wpStill_step (fun K hK => ?_); go_simp; refine hK _ ?_; clear hK K
  try simp only [Act.put, List.getElem_toArray, List.getElem_cons_zero, List.getElem_cons_succ, List.setIfInBounds_toArray, List.set_cons_zero, List.set_cons_succ]
  refine wpStill_step (fun K hK => ?_); go_simp; refine hK _ ?_; clear hK K
  try simp only [Act.put, List.getElem_toArray, List.getElem_cons_zero, List.getElem_cons_succ, List.setIfInBounds_toArray, List.set_cons_zero, List.set_cons_succ]
  refine wpStill_step (fun K hK => ?_); go_simp; refine hK _ ?_; clear hK K
  try simp only [Act.put, List.getElem_toArray, List.getElem_cons_zero, List.getElem_cons_succ, List.setIfInBounds_toArray, List.set_cons_zero, List.set_cons_succ]
  refine wpStill_step (fun K hK => ?_); go_simp; refine hK _ ?_; clear hK K
  try simp only [Act.put, List.getElem_toArray, List.getElem_cons_zero, List.getElem_cons_succ, List.setIfInBounds_toArray, List.set_cons_zero, List.set_cons_succ]
  refine wpStill_step (fun K hK => ?_); go_simp; refine hK _ ?_; clear hK K
  try simp only [Act.put, List.getElem_toArray, List.getElem_cons_zero, List.getElem_cons_succ, List.setIfInBounds_toArray, List.set_cons_zero, List.set_cons_succ]
  refine wpStill_step (fun K hK => ?_); go_simp; refine hK _ ?_; clear hK K
  try simp only [Act.put, List.getElem_toArray, List.getElem_cons_zero, List.getElem_cons_succ, List.setIfInBounds_toArray, List.set_cons_zero, List.set_cons_succ]
  refine wpStill_nil ?_
  refine wpAny_one (i := 8) (LN := #[true, true, true, true, true, true, true, true, true, false, false, false, false, false]) (by kernel_rfl) rfl (by kernel_rfl) ?_
  intro K hK
  go_simp
  go_at_call 39
  refine (HSD.out _ _ (S5.sel [6])).mono ?_
  unfold SentD
  rintro e w6 ⟨oa6, oc6, rfl, S6⟩
  dsimp only at S6 ⊢
  go_wp2_with fail
  refine hK.out _ _ ?_
  clear hK K
  try simp only [Act.put, List.getElem_toArray, List.getElem_cons_zero, List.getElem_cons_succ, List.setIfInBounds_toArray, List.set_cons_zero, List.set_cons_succ]
  refine wpAny_loc (i := 9) (v := ?_) (LN := #[true, true, true, true, true, true, true, true, true, true, false, false, false, false]) rfl (by kernel_rfl) (by kernel_rfl) (by kernel_rfl) (fun _ _ _ h => h) (by kernel_rfl) (by rfl) ?_ ?_
  rotate_left
  · intro w; first | (go_simp; done) | (go_simp; with_reducible rfl)
  try simp only [Act.put, List.getElem_toArray, List.getElem_cons_zero, List.getElem_cons_succ, List.setIfInBounds_toArray, List.set_cons_zero, List.set_cons_succ]
  refine wpAny_loc (i := 10) (v := ?_) (LN := #[true, true, true, true, true, true, true, true, true, true, true, false, false, false]) rfl (by kernel_rfl) (by kernel_rfl) (by kernel_rfl) (fun _ _ _ h => h) (by kernel_rfl) (by rfl) ?_ ?_
  rotate_left
  · intro w; first | (go_simp; done) | (go_simp; with_reducible rfl)
  try simp only [Act.put, List.getElem_toArray, List.getElem_cons_zero, List.getElem_cons_succ, List.setIfInBounds_toArray, List.set_cons_zero, List.set_cons_succ]
  refine wpAny_loc (i := 11) (v := ?_) (LN := #[true, true, true, true, true, true, true, true, true, true, true, true, false, false]) rfl (by kernel_rfl) (by kernel_rfl) (by kernel_rfl) (fun _ _ _ h => h) (by kernel_rfl) (by rfl) ?_ ?_
  rotate_left
  · intro w; first | (go_simp; done) | (go_simp; with_reducible rfl)
  try simp only [Act.put, List.getElem_toArray, List.getElem_cons_zero, List.getElem_cons_succ, List.setIfInBounds_toArray, List.set_cons_zero, List.set_cons_succ]
  refine wpAny_loc (i := 12) (v := ?_) (LN := #[true, true, true, true, true, true, true, true, true, true, true, true, true, false]) rfl (by kernel_rfl) (by kernel_rfl) (by kernel_rfl) (fun _ _ _ h => h) (by kernel_rfl) (by rfl) ?_ ?_
  rotate_left
  · intro w; first | (go_simp; done) | (go_simp; with_reducible rfl)
  try simp only [Act.put, List.getElem_toArray, List.getElem_cons_zero, List.getElem_cons_succ, List.setIfInBounds_toArray, List.set_cons_zero, List.set_cons_succ]
  refine wpAny_loc (i := 13) (v := ?_) (LN := #[true, true, true, true, true, true, true, true, true, true, true, true, true, true]) rfl (by kernel_rfl) (by kernel_rfl) (by kernel_rfl) (fun _ _ _ h => h) (by kernel_rfl) (by rfl) ?_ ?_
  rotate_left
  · intro w; first | (go_simp; done) | (go_simp; with_reducible rfl)
  try simp only [Act.put, List.getElem_toArray, List.getElem_cons_zero, List.getElem_cons_succ, List.setIfInBounds_toArray, List.set_cons_zero, List.set_cons_succ]
  refine ⟨by kernel_rfl, ?_⟩
  try simp only [Act.put, List.getElem_toArray, List.getElem_cons_zero, List.getElem_cons_succ, List.setIfInBounds_toArray, List.set_cons_zero, List.set_cons_succ]
  clear hcs0 hcs1 hcs2 hcs3 hg4 S5
  have hg4 := S6.cell 5 rfl 4
  simp only [List.getElem?_cons_zero, List.getElem?_cons_succ] at hg4
  go_wp2_with (first
    | (go_at_call 19; refine (rows_any (brs_rows (S6.sel [2])).1 (brs_rows S6).1 (brs_rows S6).2.1 HB2.out (brs_rows S6).2.2).mono ?_; rintro e w7 ⟨rfl, nq7, hq⟩; have S7 : Sat W0 w7 _ := hq ▸ S6.drewN nq7; clear hq; have hg47 := S7.cell 5 rfl 4; simp only [List.getElem?_cons_zero, List.getElem?_cons_succ] at hg47)
    | (go_at_call 40; refine (stands_any (S7.sel [4]).own_rd (HR.out _ _ S7) (by rw [HM.out]) HM.out hcp (by omega)).mono ?_; rintro e w8 ⟨rfl, nq8, hq⟩; have S8 : Sat W0 w8 _ := hq ▸ S7.drewN nq8; clear hq)
    | (go_at_call 41; refine (spoil_any (S8.sel [4]) (by omega)).mono ?_; rintro e w9 ⟨rfl, S9⟩; have S10 := (BW2_open.2 ⟨wa, wc, S9.sel [5, 5]⟩))
    | (go_at_call 23; refine (out1_any S10 HB3.out (by omega) hps).mono ?_; rintro e w11 ⟨rfl, S11⟩))
  go_ret
  exact ⟨rfl, (S11.sel [1, 2, 3]).tail.tail.tail.sel [0, 1]⟩

set_option maxRecDepth 100000 in
set_option maxHeartbeats 6400000 in
theorem does_tick0 {W0 w : World} {L : List Asn} {x p0 p1 q0 q1 : Nat} {ps : List (Int × List Int)} {s : LS} {N : Int} (S : Sat W0 w (BW2 x p0 p1 q0 q1 ps :: PL p0 s :: DL q0 s :: L)) (ok : s.Ok N) (hN : N ≤ 900000000000) (hps : ps.length ≤ 100000000)
    {en n ack : Int} (hen : bits .and .i64 en 1 = 0) (a : Option Addr) (m c : Nat) :
    Calls Try.prog 25 #[.pointer (some ⟨x, 0, none⟩), .agg #[.int .i64 5, .int .i64 en, .int .i64 n, .int .i64 ack, .slice a m c]] w (DoesPost W0 L x p0 p1 q0 q1 (ps ++ (tickP s).1.map fun r => ((1 : Int), r)) p0 q0 (tickP s).2) := by
  obtain ⟨wa, wc, Sx⟩ := BW2_open.1 S
  have S1 := Sx.alloc [.int .i64 5, .int .i64 en, .int .i64 n, .int .i64 ack, .slice a m c] 66
  have HT := Lib.hid (fun (w' : World) (M : List Asn) (h : Sat W0 w' (PL p0 s :: M)) => tick_any h ok (by omega))
  have HD := Lib.hid (fun (w' : World) (M : List Asn) (h : Sat W0 w' (DL q0 s :: M)) => r16tick_any h ok (by omega))
  have hsm := ok.tickOut (by omega)
  have HB2 := Lib.hid (small_len hsm)
  have HB3 : Hid (∀ r ∈ (tickP s).1, r.length ≤ 1000000) := fun r hr => by have := (hsm r hr).2; omega
  have hol := tick_outs_len ok
  generalize tickP s = R at HT HD HB2 HB3 hol ⊢
  obtain ⟨ou1, s2⟩ := R
  dsimp only at HB2 HB3 hol
  clear hsm ok hN Sx S
  have hg1 := S1.cell 0 rfl 1
  have hg0 := S1.cell 0 rfl 0
  simp only [List.getElem?_cons_zero, List.getElem?_cons_succ] at hg1 hg0
  go_enter Try.func25, Try.ntmps25
  go_upto_region 1 with fail
  change Sat W0 (w.alloc _) _ at S1
  generalize w.alloc _ = w1 at S1 hg0 hg1 ⊢
  generalize w.heap.size = g at S1 hg0 hg1 ⊢
  go_upto_region 12 with fail
  clear hg0 hg1 hen
  refine wp_region_drawn (N := 16) (LN := #[false, false, false, false, false, false, false, false, false, false, false, false, false, false, false, false]) (by kernel_rfl) (by kernel_rfl) (by kernel_rfl) ?_
  have S3 := S1.drew
  generalize w1.drew = w3 at S3 ⊢
  clear S1
  refine wpAny_held (fun w' => w'.cell? ⟨x, 0, none⟩ = some (.pointer (some ⟨p0, 0, none⟩)) ∧ w'.cell? ⟨x, 2, none⟩ = some (.pointer (some ⟨q0, 0, none⟩))) ⟨(S3.cell 1 rfl 0 : _), (S3.cell 1 rfl 2 : _)⟩ (fun hHeld => ?_)
  refine wpAnyH_tk (i := 0) (v := ?_) (LN := #[true, false, false, false, false, false, false, false, false, false, false, false, false, false, false, false]) rfl (by kernel_rfl) (by kernel_rfl) (by kernel_rfl) (fun _ _ _ h => h) (by kernel_rfl) (by rfl) (by assumption) ?_ ?_
  rotate_left
  · intro w hSw; (try dsimp only at hSw); first | (go_simp; done) | (go_simp; with_reducible rfl)
  try simp only [Act.put, List.getElem_toArray, List.getElem_cons_zero, List.getElem_cons_succ, List.setIfInBounds_toArray, List.set_cons_zero, List.set_cons_succ]
  refine wpAnyH_tk (i := 1) (v := ?_) (LN := #[true, true, false, false, false, false, false, false, false, false, false, false, false, false, false, false]) rfl (by kernel_rfl) (by kernel_rfl) (by kernel_rfl) (fun _ _ _ h => h) (by kernel_rfl) (by rfl) (by assumption) ?_ ?_
  rotate_left
  · intro w hSw; (try dsimp only at hSw); first | (go_simp; done) | (go_simp; with_reducible rfl)
  try simp only [Act.put, List.getElem_toArray, List.getElem_cons_zero, List.getElem_cons_succ, List.setIfInBounds_toArray, List.set_cons_zero, List.set_cons_succ]
  refine wpAnyH_tk (i := 2) (v := ?_) (LN := #[true, true, true, false, false, false, false, false, false, false, false, false, false, false, false, false]) rfl (by kernel_rfl) (by kernel_rfl) (by kernel_rfl) (fun _ _ _ h => h) (by kernel_rfl) (by rfl) (by assumption) ?_ ?_
  rotate_left
  · intro w hSw; (try dsimp only at hSw); first | (go_simp; done) | (go_simp; with_reducible rfl)
  try simp only [Act.put, List.getElem_toArray, List.getElem_cons_zero, List.getElem_cons_succ, List.setIfInBounds_toArray, List.set_cons_zero, List.set_cons_succ]
  refine wpAnyH_tk (i := 3) (v := ?_) (LN := #[true, true, true, true, false, false, false, false, false, false, false, false, false, false, false, false]) rfl (by kernel_rfl) (by kernel_rfl) (by kernel_rfl) (fun _ _ _ h => h) (by kernel_rfl) (by rfl) (by assumption) ?_ ?_
  rotate_left
  · intro w hSw; (try dsimp only at hSw); first | (go_simp; done) | (go_simp; with_reducible rfl)
  try simp only [Act.put, List.getElem_toArray, List.getElem_cons_zero, List.getElem_cons_succ, List.setIfInBounds_toArray, List.set_cons_zero, List.set_cons_succ]
  refine wpAnyH_tk (i := 4) (v := ?_) (LN := #[true, true, true, true, true, false, false, false, false, false, false, false, false, false, false, false]) rfl (by kernel_rfl) (by kernel_rfl) (by kernel_rfl) (fun _ _ _ h => h) (by kernel_rfl) (by rfl) (by assumption) ?_ ?_
  rotate_left
  · intro w hSw; (try dsimp only at hSw); first | (go_simp; done) | (go_simp; with_reducible rfl)
  try simp only [Act.put, List.getElem_toArray, List.getElem_cons_zero, List.getElem_cons_succ, List.setIfInBounds_toArray, List.set_cons_zero, List.set_cons_succ]
  refine wpAnyH_tk (i := 5) (v := ?_) (LN := #[true, true, true, true, true, true, false, false, false, false, false, false, false, false, false, false]) rfl (by kernel_rfl) (by kernel_rfl) (by kernel_rfl) (fun _ _ _ h => h) (by kernel_rfl) (by rfl) (by assumption) ?_ ?_
  rotate_left
  · intro w hSw; (try dsimp only at hSw); first | (go_simp; done) | (go_simp; with_reducible rfl)
  try simp only [Act.put, List.getElem_toArray, List.getElem_cons_zero, List.getElem_cons_succ, List.setIfInBounds_toArray, List.set_cons_zero, List.set_cons_succ]
  refine wpAnyH_tk (i := 7) (v := ?_) (LN := #[true, true, true, true, true, true, false, true, false, false, false, false, false, false, false, false]) rfl (by kernel_rfl) (by kernel_rfl) (by kernel_rfl) (fun _ _ _ h => h) (by kernel_rfl) (by rfl) (by assumption) ?_ ?_
  rotate_left
  · intro w hSw; (try dsimp only at hSw); first | (go_simp; done) | (go_simp; with_reducible rfl)
  try simp only [Act.put, List.getElem_toArray, List.getElem_cons_zero, List.getElem_cons_succ, List.setIfInBounds_toArray, List.set_cons_zero, List.set_cons_succ]
  refine wpAnyH_tk (i := 8) (v := ?_) (LN := #[true, true, true, true, true, true, false, true, true, false, false, false, false, false, false, false]) rfl (by kernel_rfl) (by kernel_rfl) (by kernel_rfl) (fun _ _ _ h => h) (by kernel_rfl) (by rfl) (by assumption) ?_ ?_
  rotate_left
  · intro w hSw; (try dsimp only at hSw); first | (go_simp; done) | (go_simp; with_reducible rfl)
  try simp only [Act.put, List.getElem_toArray, List.getElem_cons_zero, List.getElem_cons_succ, List.setIfInBounds_toArray, List.set_cons_zero, List.set_cons_succ]
  refine wpAnyH_tk (i := 9) (v := ?_) (LN := #[true, true, true, true, true, true, false, true, true, true, false, false, false, false, false, false]) rfl (by kernel_rfl) (by kernel_rfl) (by kernel_rfl) (fun _ _ _ h => h) (by kernel_rfl) (by rfl) (by assumption) ?_ ?_
  rotate_left
  · intro w hSw; (try dsimp only at hSw); first | (go_simp; done) | (go_simp; with_reducible rfl)
  try simp only [Act.put, List.getElem_toArray, List.getElem_cons_zero, List.getElem_cons_succ, List.setIfInBounds_toArray, List.set_cons_zero, List.set_cons_succ]
  refine wpAnyH_tk (i := 10) (v := ?_) (LN := #[true, true, true, true, true, true, false, true, true, true, true, false, false, false, false, false]) rfl (by kernel_rfl) (by kernel_rfl) (by kernel_rfl) (fun _ _ _ h => h) (by kernel_rfl) (by rfl) (by assumption) ?_ ?_
  rotate_left
  · intro w hSw; (try dsimp only at hSw); first | (go_simp; done) | (go_simp; with_reducible rfl)
  try simp only [Act.put, List.getElem_toArray, List.getElem_cons_zero, List.getElem_cons_succ, List.setIfInBounds_toArray, List.set_cons_zero, List.set_cons_succ]
  refine wpAnyH_tk (i := 11) (v := ?_) (LN := #[true, true, true, true, true, true, false, true, true, true, true, true, false, false, false, false]) rfl (by kernel_rfl) (by kernel_rfl) (by kernel_rfl) (fun _ _ _ h => h) (by kernel_rfl) (by rfl) (by assumption) ?_ ?_
  rotate_left
  · intro w hSw; (try dsimp only at hSw); first | (go_simp; done) | (go_simp; with_reducible rfl)
  try simp only [Act.put, List.getElem_toArray, List.getElem_cons_zero, List.getElem_cons_succ, List.setIfInBounds_toArray, List.set_cons_zero, List.set_cons_succ]
  refine wpAnyH_tk (i := 12) (v := ?_) (LN := #[true, true, true, true, true, true, false, true, true, true, true, true, true, false, false, false]) rfl (by kernel_rfl) (by kernel_rfl) (by kernel_rfl) (fun _ _ _ h => h) (by kernel_rfl) (by rfl) (by assumption) ?_ ?_
  rotate_left
  · intro w hSw; (try dsimp only at hSw); first | (go_simp; done) | (go_simp; with_reducible rfl)
  try simp only [Act.put, List.getElem_toArray, List.getElem_cons_zero, List.getElem_cons_succ, List.setIfInBounds_toArray, List.set_cons_zero, List.set_cons_succ]
  refine wpAnyH_one (i := 6) (LN := #[true, true, true, true, true, true, true, true, true, true, true, true, true, false, false, false]) (by kernel_rfl) rfl (by kernel_rfl) ?_
  intro K hK
  go_simp
  go_at_call 22
  refine (HT.out _ _ (S3.sel [3])).mono ?_
  unfold Outs
  rintro e w4 ⟨oa, oc, rfl, S4⟩
  go_wp2_with fail
  refine hK.out _ _ ⟨(S4.cell 3 rfl 0 : _), (S4.cell 3 rfl 2 : _)⟩ ?_
  clear hK K hHeld
  intro hHeld
  try simp only [Act.put, List.getElem_toArray, List.getElem_cons_zero, List.getElem_cons_succ, List.setIfInBounds_toArray, List.set_cons_zero, List.set_cons_succ]
  refine wpAnyH_one (i := 13) (LN := #[true, true, true, true, true, true, true, true, true, true, true, true, true, true, false, false]) (by kernel_rfl) rfl (by kernel_rfl) ?_
  intro K hK
  go_simp
  go_at_call 42
  refine (HD.out _ _ (S4.sel [5])).mono ?_
  unfold Outs
  rintro e w5 ⟨oa5, oc5, rfl, S5⟩
  go_wp2_with fail
  refine hK.out _ _ ⟨(S5.cell 5 rfl 0 : _), (S5.cell 5 rfl 2 : _)⟩ ?_
  clear hK K hHeld
  intro hHeld
  try simp only [Act.put, List.getElem_toArray, List.getElem_cons_zero, List.getElem_cons_succ, List.setIfInBounds_toArray, List.set_cons_zero, List.set_cons_succ]
  refine wpAnyH_tk (i := 14) (v := ?_) (LN := #[true, true, true, true, true, true, true, true, true, true, true, true, true, true, true, false]) rfl (by kernel_rfl) (by kernel_rfl) (by kernel_rfl) (fun _ _ _ h => h) (by kernel_rfl) (by rfl) (by assumption) ?_ ?_
  rotate_left
  · intro w hSw; (try dsimp only at hSw); first | (go_simp; done) | (go_simp; with_reducible rfl)
  try simp only [Act.put, List.getElem_toArray, List.getElem_cons_zero, List.getElem_cons_succ, List.setIfInBounds_toArray, List.set_cons_zero, List.set_cons_succ]
  refine wpAnyH_tk (i := 15) (v := ?_) (LN := #[true, true, true, true, true, true, true, true, true, true, true, true, true, true, true, true]) rfl (by kernel_rfl) (by kernel_rfl) (by kernel_rfl) (fun _ _ _ h => h) (by kernel_rfl) (by rfl) (by assumption) ?_ ?_
  rotate_left
  · intro w hSw; (try dsimp only at hSw); first | (go_simp; done) | (go_simp; with_reducible rfl)
  try simp only [Act.put, List.getElem_toArray, List.getElem_cons_zero, List.getElem_cons_succ, List.setIfInBounds_toArray, List.set_cons_zero, List.set_cons_succ]
  refine ⟨by kernel_rfl, ?_⟩
  try simp only [Act.put, List.getElem_toArray, List.getElem_cons_zero, List.getElem_cons_succ, List.setIfInBounds_toArray, List.set_cons_zero, List.set_cons_succ]
  have S10 := (BW2_open.2 ⟨wa, wc, S5.sel [5, 5]⟩)
  go_wp2_with (first
    | (go_at_call 23; refine (out0_any S10 HB3.out (by omega) hps).mono ?_; rintro e w11 ⟨rfl, S11⟩)
    | (go_at_call 19; refine (rows_any (brs_rows (S11.sel [3])).1 (brs_rows (S11.sel [1])).1 (brs_rows (S11.sel [1])).2.1 HB2.out (brs_rows (S11.sel [1])).2.2).mono ?_; rintro e w12 ⟨rfl, nq12, hq⟩; have S12 : Sat W0 w12 _ := hq ▸ S11.drewN nq12; clear hq))
  go_ret
  exact ⟨rfl, (S12.sel [1, 2, 3]).tail.tail.tail.sel [0, 1]⟩

set_option maxRecDepth 100000 in
set_option maxHeartbeats 6400000 in
theorem does_tick1 {W0 w : World} {L : List Asn} {x p0 p1 q0 q1 : Nat} {ps : List (Int × List Int)} {s : LS} {N : Int} (S : Sat W0 w (BW2 x p0 p1 q0 q1 ps :: PL p1 s :: DL q1 s :: L)) (ok : s.Ok N) (hN : N ≤ 900000000000) (hps : ps.length ≤ 100000000)
    {en n ack : Int} (hen : bits .and .i64 en 1 = 1) (a : Option Addr) (m c : Nat) :
    Calls Try.prog 25 #[.pointer (some ⟨x, 0, none⟩), .agg #[.int .i64 5, .int .i64 en, .int .i64 n, .int .i64 ack, .slice a m c]] w (DoesPost W0 L x p0 p1 q0 q1 (ps ++ (tickP s).1.map fun r => ((0 : Int), r)) p1 q1 (tickP s).2) := by
  obtain ⟨wa, wc, Sx⟩ := BW2_open.1 S
  have S1 := Sx.alloc [.int .i64 5, .int .i64 en, .int .i64 n, .int .i64 ack, .slice a m c] 66
  have HT := Lib.hid (fun (w' : World) (M : List Asn) (h : Sat W0 w' (PL p1 s :: M)) => tick_any h ok (by omega))
  have HD := Lib.hid (fun (w' : World) (M : List Asn) (h : Sat W0 w' (DL q1 s :: M)) => r16tick_any h ok (by omega))
  have hsm := ok.tickOut (by omega)
  have HB2 := Lib.hid (small_len hsm)
  have HB3 : Hid (∀ r ∈ (tickP s).1, r.length ≤ 1000000) := fun r hr => by have := (hsm r hr).2; omega
  have hol := tick_outs_len ok
  generalize tickP s = R at HT HD HB2 HB3 hol ⊢
  obtain ⟨ou1, s2⟩ := R
  dsimp only at HB2 HB3 hol
  clear hsm ok hN Sx S
  have hg1 := S1.cell 0 rfl 1
  have hg0 := S1.cell 0 rfl 0
  simp only [List.getElem?_cons_zero, List.getElem?_cons_succ] at hg1 hg0
  go_enter Try.func25, Try.ntmps25
  go_upto_region 1 with fail
  change Sat W0 (w.alloc _) _ at S1
  generalize w.alloc _ = w1 at S1 hg0 hg1 ⊢
  generalize w.heap.size = g at S1 hg0 hg1 ⊢
  go_upto_region 12 with fail
  clear hg0 hg1 hen
  refine wp_region_drawn (N := 16) (LN := #[false, false, false, false, false, false, false, false, false, false, false, false, false, false, false, false]) (by kernel_rfl) (by kernel_rfl) (by kernel_rfl) ?_
  have S3 := S1.drew
  generalize w1.drew = w3 at S3 ⊢
  clear S1
  refine wpAny_held (fun w' => w'.cell? ⟨x, 1, none⟩ = some (.pointer (some ⟨p1, 0, none⟩)) ∧ w'.cell? ⟨x, 3, none⟩ = some (.pointer (some ⟨q1, 0, none⟩))) ⟨(S3.cell 1 rfl 1 : _), (S3.cell 1 rfl 3 : _)⟩ (fun hHeld => ?_)
  refine wpAnyH_tk (i := 0) (v := ?_) (LN := #[true, false, false, false, false, false, false, false, false, false, false, false, false, false, false, false]) rfl (by kernel_rfl) (by kernel_rfl) (by kernel_rfl) (fun _ _ _ h => h) (by kernel_rfl) (by rfl) (by assumption) ?_ ?_
  rotate_left
  · intro w hSw; (try dsimp only at hSw); first | (go_simp; done) | (go_simp; with_reducible rfl)
  try simp only [Act.put, List.getElem_toArray, List.getElem_cons_zero, List.getElem_cons_succ, List.setIfInBounds_toArray, List.set_cons_zero, List.set_cons_succ]
  refine wpAnyH_tk (i := 1) (v := ?_) (LN := #[true, true, false, false, false, false, false, false, false, false, false, false, false, false, false, false]) rfl (by kernel_rfl) (by kernel_rfl) (by kernel_rfl) (fun _ _ _ h => h) (by kernel_rfl) (by rfl) (by assumption) ?_ ?_
  rotate_left
  · intro w hSw; (try dsimp only at hSw); first | (go_simp; done) | (go_simp; with_reducible rfl)
  try simp only [Act.put, List.getElem_toArray, List.getElem_cons_zero, List.getElem_cons_succ, List.setIfInBounds_toArray, List.set_cons_zero, List.set_cons_succ]
  refine wpAnyH_tk (i := 2) (v := ?_) (LN := #[true, true, true, false, false, false, false, false, false, false, false, false, false, false, false, false]) rfl (by kernel_rfl) (by kernel_rfl) (by kernel_rfl) (fun _ _ _ h => h) (by kernel_rfl) (by rfl) (by assumption) ?_ ?_
  rotate_left
  · intro w hSw; (try dsimp only at hSw); first | (go_simp; done) | (go_simp; with_reducible rfl)
  try simp only [Act.put, List.getElem_toArray, List.getElem_cons_zero, List.getElem_cons_succ, List.setIfInBounds_toArray, List.set_cons_zero, List.set_cons_succ]
  refine wpAnyH_tk (i := 3) (v := ?_) (LN := #[true, true, true, true, false, false, false, false, false, false, false, false, false, false, false, false]) rfl (by kernel_rfl) (by kernel_rfl) (by kernel_rfl) (fun _ _ _ h => h) (by kernel_rfl) (by rfl) (by assumption) ?_ ?_
  rotate_left
  · intro w hSw; (try dsimp only at hSw); first | (go_simp; done) | (go_simp; with_reducible rfl)
  try simp only [Act.put, List.getElem_toArray, List.getElem_cons_zero, List.getElem_cons_succ, List.setIfInBounds_toArray, List.set_cons_zero, List.set_cons_succ]
  refine wpAnyH_tk (i := 4) (v := ?_) (LN := #[true, true, true, true, true, false, false, false, false, false, false, false, false, false, false, false]) rfl (by kernel_rfl) (by kernel_rfl) (by kernel_rfl) (fun _ _ _ h => h) (by kernel_rfl) (by rfl) (by assumption) ?_ ?_
  rotate_left
  · intro w hSw; (try dsimp only at hSw); first | (go_simp; done) | (go_simp; with_reducible rfl)
  try simp only [Act.put, List.getElem_toArray, List.getElem_cons_zero, List.getElem_cons_succ, List.setIfInBounds_toArray, List.set_cons_zero, List.set_cons_succ]
  refine wpAnyH_tk (i := 5) (v := ?_) (LN := #[true, true, true, true, true, true, false, false, false, false, false, false, false, false, false, false]) rfl (by kernel_rfl) (by kernel_rfl) (by kernel_rfl) (fun _ _ _ h => h) (by kernel_rfl) (by rfl) (by assumption) ?_ ?_
  rotate_left
  · intro w hSw; (try dsimp only at hSw); first | (go_simp; done) | (go_simp; with_reducible rfl)
  try simp only [Act.put, List.getElem_toArray, List.getElem_cons_zero, List.getElem_cons_succ, List.setIfInBounds_toArray, List.set_cons_zero, List.set_cons_succ]
  refine wpAnyH_tk (i := 7) (v := ?_) (LN := #[true, true, true, true, true, true, false, true, false, false, false, false, false, false, false, false]) rfl (by kernel_rfl) (by kernel_rfl) (by kernel_rfl) (fun _ _ _ h => h) (by kernel_rfl) (by rfl) (by assumption) ?_ ?_
  rotate_left
  · intro w hSw; (try dsimp only at hSw); first | (go_simp; done) | (go_simp; with_reducible rfl)
  try simp only [Act.put, List.getElem_toArray, List.getElem_cons_zero, List.getElem_cons_succ, List.setIfInBounds_toArray, List.set_cons_zero, List.set_cons_succ]
  refine wpAnyH_tk (i := 8) (v := ?_) (LN := #[true, true, true, true, true, true, false, true, true, false, false, false, false, false, false, false]) rfl (by kernel_rfl) (by kernel_rfl) (by kernel_rfl) (fun _ _ _ h => h) (by kernel_rfl) (by rfl) (by assumption) ?_ ?_
  rotate_left
  · intro w hSw; (try dsimp only at hSw); first | (go_simp; done) | (go_simp; with_reducible rfl)
  try simp only [Act.put, List.getElem_toArray, List.getElem_cons_zero, List.getElem_cons_succ, List.setIfInBounds_toArray, List.set_cons_zero, List.set_cons_succ]
  refine wpAnyH_tk (i := 9) (v := ?_) (LN := #[true, true, true, true, true, true, false, true, true, true, false, false, false, false, false, false]) rfl (by kernel_rfl) (by kernel_rfl) (by kernel_rfl) (fun _ _ _ h => h) (by kernel_rfl) (by rfl) (by assumption) ?_ ?_
  rotate_left
  · intro w hSw; (try dsimp only at hSw); first | (go_simp; done) | (go_simp; with_reducible rfl)
  try simp only [Act.put, List.getElem_toArray, List.getElem_cons_zero, List.getElem_cons_succ, List.setIfInBounds_toArray, List.set_cons_zero, List.set_cons_succ]
  refine wpAnyH_tk (i := 10) (v := ?_) (LN := #[true, true, true, true, true, true, false, true, true, true, true, false, false, false, false, false]) rfl (by kernel_rfl) (by kernel_rfl) (by kernel_rfl) (fun _ _ _ h => h) (by kernel_rfl) (by rfl) (by assumption) ?_ ?_
  rotate_left
  · intro w hSw; (try dsimp only at hSw); first | (go_simp; done) | (go_simp; with_reducible rfl)
  try simp only [Act.put, List.getElem_toArray, List.getElem_cons_zero, List.getElem_cons_succ, List.setIfInBounds_toArray, List.set_cons_zero, List.set_cons_succ]
  refine wpAnyH_tk (i := 11) (v := ?_) (LN := #[true, true, true, true, true, true, false, true, true, true, true, true, false, false, false, false]) rfl (by kernel_rfl) (by kernel_rfl) (by kernel_rfl) (fun _ _ _ h => h) (by kernel_rfl) (by rfl) (by assumption) ?_ ?_
  rotate_left
  · intro w hSw; (try dsimp only at hSw); first | (go_simp; done) | (go_simp; with_reducible rfl)
  try simp only [Act.put, List.getElem_toArray, List.getElem_cons_zero, List.getElem_cons_succ, List.setIfInBounds_toArray, List.set_cons_zero, List.set_cons_succ]
  refine wpAnyH_tk (i := 12) (v := ?_) (LN := #[true, true, true, true, true, true, false, true, true, true, true, true, true, false, false, false]) rfl (by kernel_rfl) (by kernel_rfl) (by kernel_rfl) (fun _ _ _ h => h) (by kernel_rfl) (by rfl) (by assumption) ?_ ?_
  rotate_left
  · intro w hSw; (try dsimp only at hSw); first | (go_simp; done) | (go_simp; with_reducible rfl)
  try simp only [Act.put, List.getElem_toArray, List.getElem_cons_zero, List.getElem_cons_succ, List.setIfInBounds_toArray, List.set_cons_zero, List.set_cons_succ]
  refine wpAnyH_one (i := 6) (LN := #[true, true, true, true, true, true, true, true, true, true, true, true, true, false, false, false]) (by kernel_rfl) rfl (by kernel_rfl) ?_
  intro K hK
  go_simp
  go_at_call 22
  refine (HT.out _ _ (S3.sel [3])).mono ?_
  unfold Outs
  rintro e w4 ⟨oa, oc, rfl, S4⟩
  go_wp2_with fail
  refine hK.out _ _ ⟨(S4.cell 3 rfl 1 : _), (S4.cell 3 rfl 3 : _)⟩ ?_
  clear hK K hHeld
  intro hHeld
  try simp only [Act.put, List.getElem_toArray, List.getElem_cons_zero, List.getElem_cons_succ, List.setIfInBounds_toArray, List.set_cons_zero, List.set_cons_succ]
  refine wpAnyH_one (i := 13) (LN := #[true, true, true, true, true, true, true, true, true, true, true, true, true, true, false, false]) (by kernel_rfl) rfl (by kernel_rfl) ?_
  intro K hK
  go_simp
  go_at_call 42
  refine (HD.out _ _ (S4.sel [5])).mono ?_
  unfold Outs
  rintro e w5 ⟨oa5, oc5, rfl, S5⟩
  go_wp2_with fail
  refine hK.out _ _ ⟨(S5.cell 5 rfl 1 : _), (S5.cell 5 rfl 3 : _)⟩ ?_
  clear hK K hHeld
  intro hHeld
  try simp only [Act.put, List.getElem_toArray, List.getElem_cons_zero, List.getElem_cons_succ, List.setIfInBounds_toArray, List.set_cons_zero, List.set_cons_succ]
  refine wpAnyH_tk (i := 14) (v := ?_) (LN := #[true, true, true, true, true, true, true, true, true, true, true, true, true, true, true, false]) rfl (by kernel_rfl) (by kernel_rfl) (by kernel_rfl) (fun _ _ _ h => h) (by kernel_rfl) (by rfl) (by assumption) ?_ ?_
  rotate_left
  · intro w hSw; (try dsimp only at hSw); first | (go_simp; done) | (go_simp; with_reducible rfl)
  try simp only [Act.put, List.getElem_toArray, List.getElem_cons_zero, List.getElem_cons_succ, List.setIfInBounds_toArray, List.set_cons_zero, List.set_cons_succ]
  refine wpAnyH_tk (i := 15) (v := ?_) (LN := #[true, true, true, true, true, true, true, true, true, true, true, true, true, true, true, true]) rfl (by kernel_rfl) (by kernel_rfl) (by kernel_rfl) (fun _ _ _ h => h) (by kernel_rfl) (by rfl) (by assumption) ?_ ?_
  rotate_left
  · intro w hSw; (try dsimp only at hSw); first | (go_simp; done) | (go_simp; with_reducible rfl)
  try simp only [Act.put, List.getElem_toArray, List.getElem_cons_zero, List.getElem_cons_succ, List.setIfInBounds_toArray, List.set_cons_zero, List.set_cons_succ]
  refine ⟨by kernel_rfl, ?_⟩
  try simp only [Act.put, List.getElem_toArray, List.getElem_cons_zero, List.getElem_cons_succ, List.setIfInBounds_toArray, List.set_cons_zero, List.set_cons_succ]
  have S10 := (BW2_open.2 ⟨wa, wc, S5.sel [5, 5]⟩)
  go_wp2_with (first
    | (go_at_call 23; refine (out1_any S10 HB3.out (by omega) hps).mono ?_; rintro e w11 ⟨rfl, S11⟩)
    | (go_at_call 19; refine (rows_any (brs_rows (S11.sel [3])).1 (brs_rows (S11.sel [1])).1 (brs_rows (S11.sel [1])).2.1 HB2.out (brs_rows (S11.sel [1])).2.2).mono ?_; rintro e w12 ⟨rfl, nq12, hq⟩; have S12 : Sat W0 w12 _ := hq ▸ S11.drewN nq12; clear hq))
  go_ret
  exact ⟨rfl, (S12.sel [1, 2, 3]).tail.tail.tail.sel [0, 1]⟩
end Go.Proofs.Ytdgalljalcediaa
end

section
namespace Go.Proofs.Ytdgalljalcediaa
open Go.RowKit Go.Sep Go.Oct
set_option linter.unusedSimpArgs false

set_option maxRecDepth 100000 in
set_option maxHeartbeats 6400000 in
theorem does_raw0 {W0 w : World} {L : List Asn} {x p0 p1 q0 q1 : Nat} {ps : List (Int × List Int)} {s : LS} {N : Int} (S : Sat W0 w (BW2 x p0 p1 q0 q1 ps :: PL p0 s :: DL q0 s :: L)) (ok : s.Ok N) (hN : N ≤ 900000000000) (hps : ps.length ≤ 100000000)
    {en n ack : Int} (hen : bits .and .i64 en 1 = 0) {a : Option Addr} {m c : Nat} {b : List Int} (hR : Rd W0 a (bv b)) (hm : b.length = m) (hB : Bytes b) (hmc : m ≤ c) (hcm : c ≤ maxLen) (hb : m ≤ 100000000) :
    Calls Try.prog 25 #[.pointer (some ⟨x, 0, none⟩), .agg #[.int .i64 6, .int .i64 en, .int .i64 n, .int .i64 ack, .slice a m c]] w (DoesPost W0 L x p0 p1 q0 q1 (ps ++ (hearP s b).2.1.map fun r => ((1 : Int), r)) p0 q0 (hearP s b).2.2) := by
  obtain ⟨wa, wc, Sx⟩ := BW2_open.1 S
  have S1 := Sx.alloc [.int .i64 6, .int .i64 en, .int .i64 n, .int .i64 ack, .slice a m c] 66
  have HH := Lib.hid (fun (w' : World) (M : List Asn) (hs : List Hd) (h : Sat W0 w' (BK x p0 p1 q0 q1 (.slice wa ps.length wc) :: slc 58 2 wa ps.length wc (wayV ps hs) :: rowsB hs (ps.map (·.2)) :: PL p0 s :: DL q0 s :: M)) =>
    hears_any (ei := 0) (.inl ⟨rfl, rfl, rfl⟩) h ok hN hps (a := a) (m := m) (c := c) (b := b) (fun w' A B h => hR.below h.below) hm hB hmc hcm hb)
  generalize hearP s b = R at HH ⊢
  obtain ⟨rr, ou1, s2⟩ := R
  clear hm hR hB ok hN Sx S
  have hg1 := S1.cell 0 rfl 1
  have hg0 := S1.cell 0 rfl 0
  have hg4 := S1.cell 0 rfl 4
  simp only [List.getElem?_cons_zero, List.getElem?_cons_succ] at hg1 hg0 hg4
  obtain ⟨hs, -, -, S2⟩ := WAY_out (S1.sel [2])
  have S3 := S2.sel [3, 0, 0, 1, 1]
  go_enter Try.func25, Try.ntmps25
  go_upto_region 1 with fail
  change Sat W0 (w.alloc _) _ at S3
  generalize w.alloc _ = w1 at S3 hg0 hg1 hg4 ⊢
  clear S1 S2
  generalize w.heap.size = g at S3 hg0 hg1 hg4 ⊢
  go_wp2_with (first
    | (go_at_call 43; refine (HH.out _ _ _ S3).mono ?_; unfold HearsPost; rintro e w5 ⟨rfl, S5⟩))
  go_ret
  exact ⟨rfl, (S5.sel [3]).tail⟩

set_option maxRecDepth 100000 in
set_option maxHeartbeats 6400000 in
theorem does_raw1 {W0 w : World} {L : List Asn} {x p0 p1 q0 q1 : Nat} {ps : List (Int × List Int)} {s : LS} {N : Int} (S : Sat W0 w (BW2 x p0 p1 q0 q1 ps :: PL p1 s :: DL q1 s :: L)) (ok : s.Ok N) (hN : N ≤ 900000000000) (hps : ps.length ≤ 100000000)
    {en n ack : Int} (hen : bits .and .i64 en 1 = 1) {a : Option Addr} {m c : Nat} {b : List Int} (hR : Rd W0 a (bv b)) (hm : b.length = m) (hB : Bytes b) (hmc : m ≤ c) (hcm : c ≤ maxLen) (hb : m ≤ 100000000) :
    Calls Try.prog 25 #[.pointer (some ⟨x, 0, none⟩), .agg #[.int .i64 6, .int .i64 en, .int .i64 n, .int .i64 ack, .slice a m c]] w (DoesPost W0 L x p0 p1 q0 q1 (ps ++ (hearP s b).2.1.map fun r => ((0 : Int), r)) p1 q1 (hearP s b).2.2) := by
  obtain ⟨wa, wc, Sx⟩ := BW2_open.1 S
  have S1 := Sx.alloc [.int .i64 6, .int .i64 en, .int .i64 n, .int .i64 ack, .slice a m c] 66
  have HH := Lib.hid (fun (w' : World) (M : List Asn) (hs : List Hd) (h : Sat W0 w' (BK x p0 p1 q0 q1 (.slice wa ps.length wc) :: slc 58 2 wa ps.length wc (wayV ps hs) :: rowsB hs (ps.map (·.2)) :: PL p1 s :: DL q1 s :: M)) =>
    hears_any (ei := 1) (.inr ⟨rfl, rfl, rfl⟩) h ok hN hps (a := a) (m := m) (c := c) (b := b) (fun w' A B h => hR.below h.below) hm hB hmc hcm hb)
  generalize hearP s b = R at HH ⊢
  obtain ⟨rr, ou1, s2⟩ := R
  clear hm hR hB ok hN Sx S
  have hg1 := S1.cell 0 rfl 1
  have hg0 := S1.cell 0 rfl 0
  have hg4 := S1.cell 0 rfl 4
  simp only [List.getElem?_cons_zero, List.getElem?_cons_succ] at hg1 hg0 hg4
  obtain ⟨hs, -, -, S2⟩ := WAY_out (S1.sel [2])
  have S3 := S2.sel [3, 0, 0, 1, 1]
  go_enter Try.func25, Try.ntmps25
  go_upto_region 1 with fail
  change Sat W0 (w.alloc _) _ at S3
  generalize w.alloc _ = w1 at S3 hg0 hg1 hg4 ⊢
  clear S1 S2
  generalize w.heap.size = g at S3 hg0 hg1 hg4 ⊢
  go_wp2_with (first
    | (go_at_call 43; refine (HH.out _ _ _ S3).mono ?_; unfold HearsPost; rintro e w5 ⟨rfl, S5⟩))
  go_ret
  exact ⟨rfl, (S5.sel [3]).tail⟩

set_option maxRecDepth 100000 in
set_option maxHeartbeats 6400000 in
theorem does_pack0 {W0 w : World} {L : List Asn} {x p0 p1 q0 q1 : Nat} {ps : List (Int × List Int)} {s : LS} {N : Int} (S : Sat W0 w (BW2 x p0 p1 q0 q1 ps :: PL p0 s :: DL q0 s :: L)) (ok : s.Ok N) (hN : N ≤ 900000000000) (hps : ps.length ≤ 100000000)
    {en n ack : Int} (hen : bits .and .i64 en 1 = 0) (hn : I64 n) (hk : I64 ack) {a : Option Addr} {m c : Nat} {b : List Int} (hR : Rd W0 a (bv b)) (hm : b.length = m) (hB : Bytes b) (hb : m ≤ 9000) :
    Calls Try.prog 25 #[.pointer (some ⟨x, 0, none⟩), .agg #[.int .i64 7, .int .i64 en, .int .i64 n, .int .i64 ack, .slice a m c]] w (DoesPost W0 L x p0 p1 q0 q1 (ps ++ (hearP s (packP s.id n ack b)).2.1.map fun r => ((1 : Int), r)) p0 q0 (hearP s (packP s.id n ack b)).2.2) := by
  obtain ⟨i0, hi, hz0, hz1, hz2⟩ := info_parts Try.infoB
  obtain ⟨wa, wc, Sx⟩ := BW2_open.1 S
  have S1 := Sx.alloc [.int .i64 7, .int .i64 en, .int .i64 n, .int .i64 ack, .slice a m c] 66
  have hPB := packP_bytes (id := s.id) ok.id hn hk hB (by omega : b.length ≤ 10000)
  have hPL := packP_length (id := s.id) (n := n) (came := ack) (row := b) (by omega)
  have hBB := packB_bytes (id := s.id) ok.id hn hk hB (by omega : b.length ≤ 1000000)
  have hBL := packB_length s.id n ack b
  have hPE := packP_eq (id := s.id) (n := n) (came := ack) (row := b) (by omega)
  have HH := Lib.hid (fun (w' : World) (M : List Asn) (hs : List Hd) (a : Option Addr) (k c : Nat) (h : Sat W0 w' (BK x p0 p1 q0 q1 (.slice wa ps.length wc) :: slc 58 2 wa ps.length wc (wayV ps hs) :: rowsB hs (ps.map (·.2)) :: PL p0 s :: DL q0 s :: M))
      (hR : ∀ w' A B, Sat W0 w' (BK x p0 p1 q0 q1 (.slice wa ps.length wc) :: slc 58 2 wa ps.length wc (wayV ps hs) :: rowsB hs (ps.map (·.2)) :: A :: B :: M) → Rd w' a (bv (packP s.id n ack b))) (hm : (packP s.id n ack b).length = k) (hmc : k ≤ c) (hcm : c ≤ maxLen) =>
    hears_any (ei := 0) (.inl ⟨rfl, rfl, rfl⟩) h ok hN hps (a := a) (m := k) (c := c) hR hm hPB hmc hcm (by omega))
  generalize hearP s (packP s.id n ack b) = R at HH ⊢
  obtain ⟨rr, ou1, s2⟩ := R
  have hid := ok.id
  unfold I64 at hid hn hk
  have HP : Hid (encF (packB s.id n ack b) = (packP s.id n ack b, 0)) := by
    show _ = _
    unfold encF
    rw [if_neg (by omega), hPE]
  have hb1 := num_length s.id
  have hb2 := num_length n
  have hb3 := num_length ack
  have hb4 := num_length b.length
  have HBB := Lib.hid hBB
  have HR : Hid (∀ w' M, Sat W0 w' M → Rd w' a (bv b)) := fun w' M h => hR.below h.below
  have HM := Lib.hid hm
  clear hR hB ok hN Sx S hPB hBB hPE hm
  have hg1 := S1.cell 0 rfl 1
  have hg0 := S1.cell 0 rfl 0
  simp only [List.getElem?_cons_zero, List.getElem?_cons_succ] at hg1 hg0
  obtain ⟨ra, rc, S2⟩ := DL_open.1 (S1.sel [4])
  go_enter Try.func25, Try.ntmps25
  go_upto_region 1 with fail
  change Sat W0 (w.alloc _) _ at S2
  generalize w.alloc _ = w1 at S2 hg0 hg1 ⊢
  clear S1
  generalize w.heap.size = g at S2 hg0 hg1 ⊢
  go_upto_region 18 with fail
  clear hg0 hg1 hen
  refine wp_region_drawn (N := 15) (LN := #[false, false, false, false, false, false, false, false, false, false, false, false, false, false, false]) (by kernel_rfl) (by kernel_rfl) (by kernel_rfl) ?_
  have S3 := S2.drew
  generalize w1.drew = w3 at S3 ⊢
  clear S2
  refine wpAny_held (fun w' => w'.cell? ⟨x, 2, none⟩ = some (.pointer (some ⟨q0, 0, none⟩)) ∧ w'.cell? ⟨q0, 0, none⟩ = some (.int .i64 s.id) ∧ w'.cell? ⟨g, 2, none⟩ = some (.int .i64 n)) ⟨(S3.cell 3 rfl 2 : _), (S3.cell 0 rfl 0 : _), (S3.cell 2 rfl 2 : _)⟩ (fun hHeld => ?_)
  refine wpAnyH_tk (i := 0) (v := ?_) (LN := #[true, false, false, false, false, false, false, false, false, false, false, false, false, false, false]) rfl (by kernel_rfl) (by kernel_rfl) (by kernel_rfl) (fun _ _ _ h => h) (by kernel_rfl) (by rfl) (by assumption) ?_ ?_
  rotate_left
  · intro w hSw; (try dsimp only at hSw); first | (go_simp; done) | (go_simp; with_reducible rfl)
  try simp only [Act.put, List.getElem_toArray, List.getElem_cons_zero, List.getElem_cons_succ, List.setIfInBounds_toArray, List.set_cons_zero, List.set_cons_succ]
  refine wpAnyH_tk (i := 1) (v := ?_) (LN := #[true, true, false, false, false, false, false, false, false, false, false, false, false, false, false]) rfl (by kernel_rfl) (by kernel_rfl) (by kernel_rfl) (fun _ _ _ h => h) (by kernel_rfl) (by rfl) (by assumption) ?_ ?_
  rotate_left
  · intro w hSw; (try dsimp only at hSw); first | (go_simp; done) | (go_simp; with_reducible rfl)
  try simp only [Act.put, List.getElem_toArray, List.getElem_cons_zero, List.getElem_cons_succ, List.setIfInBounds_toArray, List.set_cons_zero, List.set_cons_succ]
  refine wpAnyH_tk (i := 2) (v := ?_) (LN := #[true, true, true, false, false, false, false, false, false, false, false, false, false, false, false]) rfl (by kernel_rfl) (by kernel_rfl) (by kernel_rfl) (fun _ _ _ h => h) (by kernel_rfl) (by rfl) (by assumption) ?_ ?_
  rotate_left
  · intro w hSw; (try dsimp only at hSw); first | (go_simp; done) | (go_simp; with_reducible rfl)
  try simp only [Act.put, List.getElem_toArray, List.getElem_cons_zero, List.getElem_cons_succ, List.setIfInBounds_toArray, List.set_cons_zero, List.set_cons_succ]
  refine wpAnyH_tk (i := 3) (v := ?_) (LN := #[true, true, true, true, false, false, false, false, false, false, false, false, false, false, false]) rfl (by kernel_rfl) (by kernel_rfl) (by kernel_rfl) (fun _ _ _ h => h) (by kernel_rfl) (by rfl) (by assumption) ?_ ?_
  rotate_left
  · intro w hSw; (try dsimp only at hSw); first | (go_simp; done) | (go_simp; with_reducible rfl)
  try simp only [Act.put, List.getElem_toArray, List.getElem_cons_zero, List.getElem_cons_succ, List.setIfInBounds_toArray, List.set_cons_zero, List.set_cons_succ]
  refine wpAnyH_tk (i := 4) (v := ?_) (LN := #[true, true, true, true, true, false, false, false, false, false, false, false, false, false, false]) rfl (by kernel_rfl) (by kernel_rfl) (by kernel_rfl) (fun _ _ _ h => h) (by kernel_rfl) (by rfl) (by assumption) ?_ ?_
  rotate_left
  · intro w hSw; (try dsimp only at hSw); first | (go_simp; done) | (go_simp; with_reducible rfl)
  try simp only [Act.put, List.getElem_toArray, List.getElem_cons_zero, List.getElem_cons_succ, List.setIfInBounds_toArray, List.set_cons_zero, List.set_cons_succ]
  refine wpAnyH_tk (i := 5) (v := ?_) (LN := #[true, true, true, true, true, true, false, false, false, false, false, false, false, false, false]) rfl (by kernel_rfl) (by kernel_rfl) (by kernel_rfl) (fun _ _ _ h => h) (by kernel_rfl) (by rfl) (by assumption) ?_ ?_
  rotate_left
  · intro w hSw; (try dsimp only at hSw); first | (go_simp; done) | (go_simp; with_reducible rfl)
  try simp only [Act.put, List.getElem_toArray, List.getElem_cons_zero, List.getElem_cons_succ, List.setIfInBounds_toArray, List.set_cons_zero, List.set_cons_succ]
  refine wpAnyH_tk (i := 6) (v := ?_) (LN := #[true, true, true, true, true, true, true, false, false, false, false, false, false, false, false]) rfl (by kernel_rfl) (by kernel_rfl) (by kernel_rfl) (fun _ _ _ h => h) (by kernel_rfl) (by rfl) (by assumption) ?_ ?_
  rotate_left
  · intro w hSw; (try dsimp only at hSw); first | (go_simp; done) | (go_simp; with_reducible rfl)
  try simp only [Act.put, List.getElem_toArray, List.getElem_cons_zero, List.getElem_cons_succ, List.setIfInBounds_toArray, List.set_cons_zero, List.set_cons_succ]
  refine wpAnyH_tk (i := 7) (v := ?_) (LN := #[true, true, true, true, true, true, true, true, false, false, false, false, false, false, false]) rfl (by kernel_rfl) (by kernel_rfl) (by kernel_rfl) (fun _ _ _ h => h) (by kernel_rfl) (by rfl) (by assumption) ?_ ?_
  rotate_left
  · intro w hSw; (try dsimp only at hSw); first | (go_simp; done) | (go_simp; with_reducible rfl)
  try simp only [Act.put, List.getElem_toArray, List.getElem_cons_zero, List.getElem_cons_succ, List.setIfInBounds_toArray, List.set_cons_zero, List.set_cons_succ]
  refine wpAnyH_tk (i := 8) (v := ?_) (LN := #[true, true, true, true, true, true, true, true, true, false, false, false, false, false, false]) rfl (by kernel_rfl) (by kernel_rfl) (by kernel_rfl) (fun _ _ _ h => h) (by kernel_rfl) (by rfl) (by assumption) ?_ ?_
  rotate_left
  · intro w hSw; (try dsimp only at hSw); first | (go_simp; done) | (go_simp; with_reducible rfl)
  try simp only [Act.put, List.getElem_toArray, List.getElem_cons_zero, List.getElem_cons_succ, List.setIfInBounds_toArray, List.set_cons_zero, List.set_cons_succ]
  refine wpAnyH_tk (i := 10) (v := ?_) (LN := #[true, true, true, true, true, true, true, true, true, false, true, false, false, false, false]) rfl (by kernel_rfl) (by kernel_rfl) (by kernel_rfl) (fun _ _ _ h => h) (by kernel_rfl) (by rfl) (by assumption) ?_ ?_
  rotate_left
  · intro w hSw; (try dsimp only at hSw); first | (go_simp; done) | (go_simp; with_reducible rfl)
  try simp only [Act.put, List.getElem_toArray, List.getElem_cons_zero, List.getElem_cons_succ, List.setIfInBounds_toArray, List.set_cons_zero, List.set_cons_succ]
  refine wpAnyH_tk (i := 11) (v := ?_) (LN := #[true, true, true, true, true, true, true, true, true, false, true, true, false, false, false]) rfl (by kernel_rfl) (by kernel_rfl) (by kernel_rfl) (fun _ _ _ h => h) (by kernel_rfl) (by rfl) (by assumption) ?_ ?_
  rotate_left
  · intro w hSw; (try dsimp only at hSw); first | (go_simp; done) | (go_simp; with_reducible rfl)
  try simp only [Act.put, List.getElem_toArray, List.getElem_cons_zero, List.getElem_cons_succ, List.setIfInBounds_toArray, List.set_cons_zero, List.set_cons_succ]
  refine wpAnyH_one (i := 9) (LN := #[true, true, true, true, true, true, true, true, true, true, true, true, false, false, false]) (by kernel_rfl) rfl (by kernel_rfl) ?_
  intro K hK
  go_simp
  go_at_call 44
  refine (refNum_any S3 s.id hid.1 hid.2).mono ?_
  rintro e w4 ⟨a4, n4, rfl, S4⟩
  go_wp2_with fail
  refine hK.out _ _ ⟨(S4.cell 4 rfl 2 : _), (S4.cell 1 rfl 0 : _), (S4.cell 3 rfl 2 : _)⟩ ?_
  clear hK K hHeld
  intro hHeld
  try simp only [Act.put, List.getElem_toArray, List.getElem_cons_zero, List.getElem_cons_succ, List.setIfInBounds_toArray, List.set_cons_zero, List.set_cons_succ]
  refine wpAnyH_one (i := 12) (LN := #[true, true, true, true, true, true, true, true, true, true, true, true, true, false, false]) (by kernel_rfl) rfl (by kernel_rfl) ?_
  intro K hK
  go_simp
  go_at_call 44
  refine (refNum_any S4 n hn.1 hn.2).mono ?_
  rintro e w5 ⟨a5, n5, rfl, S5⟩
  go_wp2_with fail
  refine hK.out _ _ ⟨(S5.cell 5 rfl 2 : _), (S5.cell 2 rfl 0 : _), (S5.cell 4 rfl 2 : _)⟩ ?_
  clear hK K hHeld
  intro hHeld
  try simp only [Act.put, List.getElem_toArray, List.getElem_cons_zero, List.getElem_cons_succ, List.setIfInBounds_toArray, List.set_cons_zero, List.set_cons_succ]
  refine wpAnyH_one (i := 13) (LN := #[true, true, true, true, true, true, true, true, true, true, true, true, true, true, false]) (by kernel_rfl) rfl (by kernel_rfl) ?_
  intro K hK
  refine step_append_sat rfl _ _ _ rfl 5 i0 (.int .u8 0) 1 1 Try.underlying29 hi hz0 hz1 hz2 rfl (by decide) S5.swap rfl rfl S5.own_rd (by rw [bv_length, Nat.mul_one]) (bv_one _) (by unfold maxLen; omega) (by omega) ?_
  intro a6 n6 w6 S6
  rw [← bv_append] at S6
  refine hK.out _ _ ⟨(S6.cell 5 rfl 2 : _), (S6.cell 2 rfl 0 : _), (S6.cell 4 rfl 2 : _)⟩ ?_
  clear hK K hHeld
  intro hHeld
  try simp only [Act.put, List.getElem_toArray, List.getElem_cons_zero, List.getElem_cons_succ, List.setIfInBounds_toArray, List.set_cons_zero, List.set_cons_succ]
  refine wpAnyH_tk (i := 14) (v := ?_) (LN := #[true, true, true, true, true, true, true, true, true, true, true, true, true, true, true]) rfl (by kernel_rfl) (by kernel_rfl) (by kernel_rfl) (fun _ _ _ h => h) (by kernel_rfl) (by rfl) (by assumption) ?_ ?_
  rotate_left
  · intro w hSw; (try dsimp only at hSw); first | (go_simp; done) | (go_simp; with_reducible rfl)
  try simp only [Act.put, List.getElem_toArray, List.getElem_cons_zero, List.getElem_cons_succ, List.setIfInBounds_toArray, List.set_cons_zero, List.set_cons_succ]
  refine ⟨by kernel_rfl, ?_⟩
  try simp only [Act.put, List.getElem_toArray, List.getElem_cons_zero, List.getElem_cons_succ, List.setIfInBounds_toArray, List.set_cons_zero, List.set_cons_succ]
  clear S3 S4 S5
  have hg3 := S6.cell 4 rfl 3
  simp only [List.getElem?_cons_zero, List.getElem?_cons_succ] at hg3
  by_cases hpos : 0 < n
  · have hd : decide (0 < n) = true := decide_eq_true hpos
    obtain ⟨Z, hZ⟩ : ∃ Z, num s.id ++ num n ++ num ack ++ (num b.length ++ b) = Z := ⟨_, rfl⟩
    have hZ2 : packB s.id n ack b = Z := by unfold packB; rw [if_pos hpos, hZ]
    have HZL : Hid (Z.length = (num s.id).length + (num n).length + (num ack).length + ((num b.length).length + b.length)) := by show _ = _; rw [← hZ]; simp only [List.length_append]
    rw [hZ2] at HP HBB hBL
    have HZ := Lib.hid hZ
    have hl9 : (num b.length ++ b).length ≤ 9010 := by have := HM.out; rw [List.length_append]; omega
    clear hZ hZ2
    go_wp2_with (first
      | (go_at_call 43; refine (HH.out _ _ _ _ _ _ S13 (fun w' A B h => (h.sel [5]).own_rd) rfl (S13.sel [5]).own_len.2.1 (S13.sel [5]).own_len.2.2.1).mono ?_; unfold HearsPost; rintro e w14 ⟨rfl, S14⟩)
      | (go_at_call 46; refine (r4Encode_any (xs := Z) S10 (fun w' h => h.own_rd) HZL.out HBB.out (by have := HM.out; omega)).mono ?_; rw [HP.out]; unfold Encoded; rintro e w11 ⟨a11, n11, rfl, S11⟩; dsimp only at S11 ⊢; obtain ⟨hs, -, -, S12⟩ := WAY_out ((DL_open.2 ⟨ra, rc, S11.sel [5, 5]⟩).sel [8]); have S13 := S12.sel [9, 0, 0, 7, 0])
      | (go_at_call 45; refine (refBytes_any S8 (fun w' h => HR.out _ _ h) HM.out (by omega)).mono ?_; rintro e w9 ⟨a9, n9, rfl, S9⟩)
      | (go_at_call 44; refine (refNum_any S6 ack hk.1 hk.2).mono ?_; rintro e w7 ⟨a7, n7, rfl, S7⟩)
      | (at_builtin; refine wpList_append_sat rfl (.tmp 123) (.tmp 126) _ rfl 5 i0 (.int .u8 0) 1 1 Try.underlying29 hi hz0 hz1 hz2 rfl (by decide) S7.swap rfl rfl S7.own_rd (by rw [bv_length, Nat.mul_one]) (bv_one _) (by unfold maxLen; omega) (by omega) ?_; intro a8 n8 w8 S8; rw [← bv_append] at S8; have hg2 := S8.cell 5 rfl 2; have hg4 := S8.cell 5 rfl 4; simp only [List.getElem?_cons_zero, List.getElem?_cons_succ] at hg2 hg4)
      | (at_builtin; refine wpList_append_sat rfl (.tmp 131) (.tmp 134) _ rfl 5 i0 (.int .u8 0) 1 1 Try.underlying29 hi hz0 hz1 hz2 rfl (by decide) S9.swap rfl rfl S9.own_rd (by rw [bv_length, Nat.mul_one, List.length_append]) (bv_one _) (by have := HM.out; unfold maxLen; omega) (by have := HM.out; omega) ?_; intro a10 n10 w10 S10; rw [← bv_append, HZ.out] at S10))
    go_ret
    exact ⟨rfl, (S14.sel [3, 3, 3, 3, 3, 3]).tail.tail.tail.tail.tail.tail⟩
  · have hd : decide (0 < n) = false := decide_eq_false hpos
    obtain ⟨Z, hZ⟩ : ∃ Z, num s.id ++ num n ++ num ack = Z := ⟨_, rfl⟩
    have hZ2 : packB s.id n ack b = Z := by unfold packB; rw [if_neg hpos, List.append_nil, hZ]
    have HZL : Hid (Z.length = (num s.id).length + (num n).length + (num ack).length) := by show _ = _; rw [← hZ]; simp only [List.length_append]
    rw [hZ2] at HP HBB hBL
    have HZ := Lib.hid hZ
    clear hZ hZ2
    go_wp2_with (first
      | (go_at_call 43; refine (HH.out _ _ _ _ _ _ S13 (fun w' A B h => (h.sel [5]).own_rd) rfl (S13.sel [5]).own_len.2.1 (S13.sel [5]).own_len.2.2.1).mono ?_; unfold HearsPost; rintro e w14 ⟨rfl, S14⟩)
      | (go_at_call 46; refine (r4Encode_any (xs := Z) S8 (fun w' h => h.own_rd) HZL.out HBB.out (by omega)).mono ?_; rw [HP.out]; unfold Encoded; rintro e w11 ⟨a11, n11, rfl, S11⟩; dsimp only at S11 ⊢; obtain ⟨hs, -, -, S12⟩ := WAY_out ((DL_open.2 ⟨ra, rc, S11.sel [4, 4]⟩).sel [7]); have S13 := S12.sel [8, 0, 0, 6, 0])
      | (go_at_call 44; refine (refNum_any S6 ack hk.1 hk.2).mono ?_; rintro e w7 ⟨a7, n7, rfl, S7⟩)
      | (at_builtin; refine wpList_append_sat rfl (.tmp 123) (.tmp 126) _ rfl 5 i0 (.int .u8 0) 1 1 Try.underlying29 hi hz0 hz1 hz2 rfl (by decide) S7.swap rfl rfl S7.own_rd (by rw [bv_length, Nat.mul_one]) (bv_one _) (by unfold maxLen; omega) (by omega) ?_; intro a8 n8 w8 S8; rw [← bv_append, HZ.out] at S8; have hg2 := S8.cell 5 rfl 2; have hg4 := S8.cell 5 rfl 4; simp only [List.getElem?_cons_zero, List.getElem?_cons_succ] at hg2 hg4))
    go_ret
    exact ⟨rfl, (S14.sel [3, 3, 3, 3, 3]).tail.tail.tail.tail.tail⟩

set_option maxRecDepth 100000 in
set_option maxHeartbeats 6400000 in
theorem does_pack1 {W0 w : World} {L : List Asn} {x p0 p1 q0 q1 : Nat} {ps : List (Int × List Int)} {s : LS} {N : Int} (S : Sat W0 w (BW2 x p0 p1 q0 q1 ps :: PL p1 s :: DL q1 s :: L)) (ok : s.Ok N) (hN : N ≤ 900000000000) (hps : ps.length ≤ 100000000)
    {en n ack : Int} (hen : bits .and .i64 en 1 = 1) (hn : I64 n) (hk : I64 ack) {a : Option Addr} {m c : Nat} {b : List Int} (hR : Rd W0 a (bv b)) (hm : b.length = m) (hB : Bytes b) (hb : m ≤ 9000) :
    Calls Try.prog 25 #[.pointer (some ⟨x, 0, none⟩), .agg #[.int .i64 7, .int .i64 en, .int .i64 n, .int .i64 ack, .slice a m c]] w (DoesPost W0 L x p0 p1 q0 q1 (ps ++ (hearP s (packP s.id n ack b)).2.1.map fun r => ((0 : Int), r)) p1 q1 (hearP s (packP s.id n ack b)).2.2) := by
  obtain ⟨i0, hi, hz0, hz1, hz2⟩ := info_parts Try.infoB
  obtain ⟨wa, wc, Sx⟩ := BW2_open.1 S
  have S1 := Sx.alloc [.int .i64 7, .int .i64 en, .int .i64 n, .int .i64 ack, .slice a m c] 66
  have hPB := packP_bytes (id := s.id) ok.id hn hk hB (by omega : b.length ≤ 10000)
  have hPL := packP_length (id := s.id) (n := n) (came := ack) (row := b) (by omega)
  have hBB := packB_bytes (id := s.id) ok.id hn hk hB (by omega : b.length ≤ 1000000)
  have hBL := packB_length s.id n ack b
  have hPE := packP_eq (id := s.id) (n := n) (came := ack) (row := b) (by omega)
  have HH := Lib.hid (fun (w' : World) (M : List Asn) (hs : List Hd) (a : Option Addr) (k c : Nat) (h : Sat W0 w' (BK x p0 p1 q0 q1 (.slice wa ps.length wc) :: slc 58 2 wa ps.length wc (wayV ps hs) :: rowsB hs (ps.map (·.2)) :: PL p1 s :: DL q1 s :: M))
      (hR : ∀ w' A B, Sat W0 w' (BK x p0 p1 q0 q1 (.slice wa ps.length wc) :: slc 58 2 wa ps.length wc (wayV ps hs) :: rowsB hs (ps.map (·.2)) :: A :: B :: M) → Rd w' a (bv (packP s.id n ack b))) (hm : (packP s.id n ack b).length = k) (hmc : k ≤ c) (hcm : c ≤ maxLen) =>
    hears_any (ei := 1) (.inr ⟨rfl, rfl, rfl⟩) h ok hN hps (a := a) (m := k) (c := c) hR hm hPB hmc hcm (by omega))
  generalize hearP s (packP s.id n ack b) = R at HH ⊢
  obtain ⟨rr, ou1, s2⟩ := R
  have hid := ok.id
  unfold I64 at hid hn hk
  have HP : Hid (encF (packB s.id n ack b) = (packP s.id n ack b, 0)) := by
    show _ = _
    unfold encF
    rw [if_neg (by omega), hPE]
  have hb1 := num_length s.id
  have hb2 := num_length n
  have hb3 := num_length ack
  have hb4 := num_length b.length
  have HBB := Lib.hid hBB
  have HR : Hid (∀ w' M, Sat W0 w' M → Rd w' a (bv b)) := fun w' M h => hR.below h.below
  have HM := Lib.hid hm
  clear hR hB ok hN Sx S hPB hBB hPE hm
  have hg1 := S1.cell 0 rfl 1
  have hg0 := S1.cell 0 rfl 0
  simp only [List.getElem?_cons_zero, List.getElem?_cons_succ] at hg1 hg0
  obtain ⟨ra, rc, S2⟩ := DL_open.1 (S1.sel [4])
  go_enter Try.func25, Try.ntmps25
  go_upto_region 1 with fail
  change Sat W0 (w.alloc _) _ at S2
  generalize w.alloc _ = w1 at S2 hg0 hg1 ⊢
  clear S1
  generalize w.heap.size = g at S2 hg0 hg1 ⊢
  go_upto_region 18 with fail
  clear hg0 hg1 hen
  refine wp_region_drawn (N := 15) (LN := #[false, false, false, false, false, false, false, false, false, false, false, false, false, false, false]) (by kernel_rfl) (by kernel_rfl) (by kernel_rfl) ?_
  have S3 := S2.drew
  generalize w1.drew = w3 at S3 ⊢
  clear S2
  refine wpAny_held (fun w' => w'.cell? ⟨x, 3, none⟩ = some (.pointer (some ⟨q1, 0, none⟩)) ∧ w'.cell? ⟨q1, 0, none⟩ = some (.int .i64 s.id) ∧ w'.cell? ⟨g, 2, none⟩ = some (.int .i64 n)) ⟨(S3.cell 3 rfl 3 : _), (S3.cell 0 rfl 0 : _), (S3.cell 2 rfl 2 : _)⟩ (fun hHeld => ?_)
  refine wpAnyH_tk (i := 0) (v := ?_) (LN := #[true, false, false, false, false, false, false, false, false, false, false, false, false, false, false]) rfl (by kernel_rfl) (by kernel_rfl) (by kernel_rfl) (fun _ _ _ h => h) (by kernel_rfl) (by rfl) (by assumption) ?_ ?_
  rotate_left
  · intro w hSw; (try dsimp only at hSw); first | (go_simp; done) | (go_simp; with_reducible rfl)
  try simp only [Act.put, List.getElem_toArray, List.getElem_cons_zero, List.getElem_cons_succ, List.setIfInBounds_toArray, List.set_cons_zero, List.set_cons_succ]
  refine wpAnyH_tk (i := 1) (v := ?_) (LN := #[true, true, false, false, false, false, false, false, false, false, false, false, false, false, false]) rfl (by kernel_rfl) (by kernel_rfl) (by kernel_rfl) (fun _ _ _ h => h) (by kernel_rfl) (by rfl) (by assumption) ?_ ?_
  rotate_left
  · intro w hSw; (try dsimp only at hSw); first | (go_simp; done) | (go_simp; with_reducible rfl)
  try simp only [Act.put, List.getElem_toArray, List.getElem_cons_zero, List.getElem_cons_succ, List.setIfInBounds_toArray, List.set_cons_zero, List.set_cons_succ]
  refine wpAnyH_tk (i := 2) (v := ?_) (LN := #[true, true, true, false, false, false, false, false, false, false, false, false, false, false, false]) rfl (by kernel_rfl) (by kernel_rfl) (by kernel_rfl) (fun _ _ _ h => h) (by kernel_rfl) (by rfl) (by assumption) ?_ ?_
  rotate_left
  · intro w hSw; (try dsimp only at hSw); first | (go_simp; done) | (go_simp; with_reducible rfl)
  try simp only [Act.put, List.getElem_toArray, List.getElem_cons_zero, List.getElem_cons_succ, List.setIfInBounds_toArray, List.set_cons_zero, List.set_cons_succ]
  refine wpAnyH_tk (i := 3) (v := ?_) (LN := #[true, true, true, true, false, false, false, false, false, false, false, false, false, false, false]) rfl (by kernel_rfl) (by kernel_rfl) (by kernel_rfl) (fun _ _ _ h => h) (by kernel_rfl) (by rfl) (by assumption) ?_ ?_
  rotate_left
  · intro w hSw; (try dsimp only at hSw); first | (go_simp; done) | (go_simp; with_reducible rfl)
  try simp only [Act.put, List.getElem_toArray, List.getElem_cons_zero, List.getElem_cons_succ, List.setIfInBounds_toArray, List.set_cons_zero, List.set_cons_succ]
  refine wpAnyH_tk (i := 4) (v := ?_) (LN := #[true, true, true, true, true, false, false, false, false, false, false, false, false, false, false]) rfl (by kernel_rfl) (by kernel_rfl) (by kernel_rfl) (fun _ _ _ h => h) (by kernel_rfl) (by rfl) (by assumption) ?_ ?_
  rotate_left
  · intro w hSw; (try dsimp only at hSw); first | (go_simp; done) | (go_simp; with_reducible rfl)
  try simp only [Act.put, List.getElem_toArray, List.getElem_cons_zero, List.getElem_cons_succ, List.setIfInBounds_toArray, List.set_cons_zero, List.set_cons_succ]
  refine wpAnyH_tk (i := 5) (v := ?_) (LN := #[true, true, true, true, true, true, false, false, false, false, false, false, false, false, false]) rfl (by kernel_rfl) (by kernel_rfl) (by kernel_rfl) (fun _ _ _ h => h) (by kernel_rfl) (by rfl) (by assumption) ?_ ?_
  rotate_left
  · intro w hSw; (try dsimp only at hSw); first | (go_simp; done) | (go_simp; with_reducible rfl)
  try simp only [Act.put, List.getElem_toArray, List.getElem_cons_zero, List.getElem_cons_succ, List.setIfInBounds_toArray, List.set_cons_zero, List.set_cons_succ]
  refine wpAnyH_tk (i := 6) (v := ?_) (LN := #[true, true, true, true, true, true, true, false, false, false, false, false, false, false, false]) rfl (by kernel_rfl) (by kernel_rfl) (by kernel_rfl) (fun _ _ _ h => h) (by kernel_rfl) (by rfl) (by assumption) ?_ ?_
  rotate_left
  · intro w hSw; (try dsimp only at hSw); first | (go_simp; done) | (go_simp; with_reducible rfl)
  try simp only [Act.put, List.getElem_toArray, List.getElem_cons_zero, List.getElem_cons_succ, List.setIfInBounds_toArray, List.set_cons_zero, List.set_cons_succ]
  refine wpAnyH_tk (i := 7) (v := ?_) (LN := #[true, true, true, true, true, true, true, true, false, false, false, false, false, false, false]) rfl (by kernel_rfl) (by kernel_rfl) (by kernel_rfl) (fun _ _ _ h => h) (by kernel_rfl) (by rfl) (by assumption) ?_ ?_
  rotate_left
  · intro w hSw; (try dsimp only at hSw); first | (go_simp; done) | (go_simp; with_reducible rfl)
  try simp only [Act.put, List.getElem_toArray, List.getElem_cons_zero, List.getElem_cons_succ, List.setIfInBounds_toArray, List.set_cons_zero, List.set_cons_succ]
  refine wpAnyH_tk (i := 8) (v := ?_) (LN := #[true, true, true, true, true, true, true, true, true, false, false, false, false, false, false]) rfl (by kernel_rfl) (by kernel_rfl) (by kernel_rfl) (fun _ _ _ h => h) (by kernel_rfl) (by rfl) (by assumption) ?_ ?_
  rotate_left
  · intro w hSw; (try dsimp only at hSw); first | (go_simp; done) | (go_simp; with_reducible rfl)
  try simp only [Act.put, List.getElem_toArray, List.getElem_cons_zero, List.getElem_cons_succ, List.setIfInBounds_toArray, List.set_cons_zero, List.set_cons_succ]
  refine wpAnyH_tk (i := 10) (v := ?_) (LN := #[true, true, true, true, true, true, true, true, true, false, true, false, false, false, false]) rfl (by kernel_rfl) (by kernel_rfl) (by kernel_rfl) (fun _ _ _ h => h) (by kernel_rfl) (by rfl) (by assumption) ?_ ?_
  rotate_left
  · intro w hSw; (try dsimp only at hSw); first | (go_simp; done) | (go_simp; with_reducible rfl)
  try simp only [Act.put, List.getElem_toArray, List.getElem_cons_zero, List.getElem_cons_succ, List.setIfInBounds_toArray, List.set_cons_zero, List.set_cons_succ]
  refine wpAnyH_tk (i := 11) (v := ?_) (LN := #[true, true, true, true, true, true, true, true, true, false, true, true, false, false, false]) rfl (by kernel_rfl) (by kernel_rfl) (by kernel_rfl) (fun _ _ _ h => h) (by kernel_rfl) (by rfl) (by assumption) ?_ ?_
  rotate_left
  · intro w hSw; (try dsimp only at hSw); first | (go_simp; done) | (go_simp; with_reducible rfl)
  try simp only [Act.put, List.getElem_toArray, List.getElem_cons_zero, List.getElem_cons_succ, List.setIfInBounds_toArray, List.set_cons_zero, List.set_cons_succ]
  refine wpAnyH_one (i := 9) (LN := #[true, true, true, true, true, true, true, true, true, true, true, true, false, false, false]) (by kernel_rfl) rfl (by kernel_rfl) ?_
  intro K hK
  go_simp
  go_at_call 44
  refine (refNum_any S3 s.id hid.1 hid.2).mono ?_
  rintro e w4 ⟨a4, n4, rfl, S4⟩
  go_wp2_with fail
  refine hK.out _ _ ⟨(S4.cell 4 rfl 3 : _), (S4.cell 1 rfl 0 : _), (S4.cell 3 rfl 2 : _)⟩ ?_
  clear hK K hHeld
  intro hHeld
  try simp only [Act.put, List.getElem_toArray, List.getElem_cons_zero, List.getElem_cons_succ, List.setIfInBounds_toArray, List.set_cons_zero, List.set_cons_succ]
  refine wpAnyH_one (i := 12) (LN := #[true, true, true, true, true, true, true, true, true, true, true, true, true, false, false]) (by kernel_rfl) rfl (by kernel_rfl) ?_
  intro K hK
  go_simp
  go_at_call 44
  refine (refNum_any S4 n hn.1 hn.2).mono ?_
  rintro e w5 ⟨a5, n5, rfl, S5⟩
  go_wp2_with fail
  refine hK.out _ _ ⟨(S5.cell 5 rfl 3 : _), (S5.cell 2 rfl 0 : _), (S5.cell 4 rfl 2 : _)⟩ ?_
  clear hK K hHeld
  intro hHeld
  try simp only [Act.put, List.getElem_toArray, List.getElem_cons_zero, List.getElem_cons_succ, List.setIfInBounds_toArray, List.set_cons_zero, List.set_cons_succ]
  refine wpAnyH_one (i := 13) (LN := #[true, true, true, true, true, true, true, true, true, true, true, true, true, true, false]) (by kernel_rfl) rfl (by kernel_rfl) ?_
  intro K hK
  refine step_append_sat rfl _ _ _ rfl 5 i0 (.int .u8 0) 1 1 Try.underlying29 hi hz0 hz1 hz2 rfl (by decide) S5.swap rfl rfl S5.own_rd (by rw [bv_length, Nat.mul_one]) (bv_one _) (by unfold maxLen; omega) (by omega) ?_
  intro a6 n6 w6 S6
  rw [← bv_append] at S6
  refine hK.out _ _ ⟨(S6.cell 5 rfl 3 : _), (S6.cell 2 rfl 0 : _), (S6.cell 4 rfl 2 : _)⟩ ?_
  clear hK K hHeld
  intro hHeld
  try simp only [Act.put, List.getElem_toArray, List.getElem_cons_zero, List.getElem_cons_succ, List.setIfInBounds_toArray, List.set_cons_zero, List.set_cons_succ]
  refine wpAnyH_tk (i := 14) (v := ?_) (LN := #[true, true, true, true, true, true, true, true, true, true, true, true, true, true, true]) rfl (by kernel_rfl) (by kernel_rfl) (by kernel_rfl) (fun _ _ _ h => h) (by kernel_rfl) (by rfl) (by assumption) ?_ ?_
  rotate_left
  · intro w hSw; (try dsimp only at hSw); first | (go_simp; done) | (go_simp; with_reducible rfl)
  try simp only [Act.put, List.getElem_toArray, List.getElem_cons_zero, List.getElem_cons_succ, List.setIfInBounds_toArray, List.set_cons_zero, List.set_cons_succ]
  refine ⟨by kernel_rfl, ?_⟩
  try simp only [Act.put, List.getElem_toArray, List.getElem_cons_zero, List.getElem_cons_succ, List.setIfInBounds_toArray, List.set_cons_zero, List.set_cons_succ]
  clear S3 S4 S5
  have hg3 := S6.cell 4 rfl 3
  simp only [List.getElem?_cons_zero, List.getElem?_cons_succ] at hg3
  by_cases hpos : 0 < n
  · have hd : decide (0 < n) = true := decide_eq_true hpos
    obtain ⟨Z, hZ⟩ : ∃ Z, num s.id ++ num n ++ num ack ++ (num b.length ++ b) = Z := ⟨_, rfl⟩
    have hZ2 : packB s.id n ack b = Z := by unfold packB; rw [if_pos hpos, hZ]
    have HZL : Hid (Z.length = (num s.id).length + (num n).length + (num ack).length + ((num b.length).length + b.length)) := by show _ = _; rw [← hZ]; simp only [List.length_append]
    rw [hZ2] at HP HBB hBL
    have HZ := Lib.hid hZ
    have hl9 : (num b.length ++ b).length ≤ 9010 := by have := HM.out; rw [List.length_append]; omega
    clear hZ hZ2
    go_wp2_with (first
      | (go_at_call 43; refine (HH.out _ _ _ _ _ _ S13 (fun w' A B h => (h.sel [5]).own_rd) rfl (S13.sel [5]).own_len.2.1 (S13.sel [5]).own_len.2.2.1).mono ?_; unfold HearsPost; rintro e w14 ⟨rfl, S14⟩)
      | (go_at_call 46; refine (r4Encode_any (xs := Z) S10 (fun w' h => h.own_rd) HZL.out HBB.out (by have := HM.out; omega)).mono ?_; rw [HP.out]; unfold Encoded; rintro e w11 ⟨a11, n11, rfl, S11⟩; dsimp only at S11 ⊢; obtain ⟨hs, -, -, S12⟩ := WAY_out ((DL_open.2 ⟨ra, rc, S11.sel [5, 5]⟩).sel [8]); have S13 := S12.sel [9, 0, 0, 7, 0])
      | (go_at_call 45; refine (refBytes_any S8 (fun w' h => HR.out _ _ h) HM.out (by omega)).mono ?_; rintro e w9 ⟨a9, n9, rfl, S9⟩)
      | (go_at_call 44; refine (refNum_any S6 ack hk.1 hk.2).mono ?_; rintro e w7 ⟨a7, n7, rfl, S7⟩)
      | (at_builtin; refine wpList_append_sat rfl (.tmp 123) (.tmp 126) _ rfl 5 i0 (.int .u8 0) 1 1 Try.underlying29 hi hz0 hz1 hz2 rfl (by decide) S7.swap rfl rfl S7.own_rd (by rw [bv_length, Nat.mul_one]) (bv_one _) (by unfold maxLen; omega) (by omega) ?_; intro a8 n8 w8 S8; rw [← bv_append] at S8; have hg2 := S8.cell 5 rfl 2; have hg4 := S8.cell 5 rfl 4; simp only [List.getElem?_cons_zero, List.getElem?_cons_succ] at hg2 hg4)
      | (at_builtin; refine wpList_append_sat rfl (.tmp 131) (.tmp 134) _ rfl 5 i0 (.int .u8 0) 1 1 Try.underlying29 hi hz0 hz1 hz2 rfl (by decide) S9.swap rfl rfl S9.own_rd (by rw [bv_length, Nat.mul_one, List.length_append]) (bv_one _) (by have := HM.out; unfold maxLen; omega) (by have := HM.out; omega) ?_; intro a10 n10 w10 S10; rw [← bv_append, HZ.out] at S10))
    go_ret
    exact ⟨rfl, (S14.sel [3, 3, 3, 3, 3, 3]).tail.tail.tail.tail.tail.tail⟩
  · have hd : decide (0 < n) = false := decide_eq_false hpos
    obtain ⟨Z, hZ⟩ : ∃ Z, num s.id ++ num n ++ num ack = Z := ⟨_, rfl⟩
    have hZ2 : packB s.id n ack b = Z := by unfold packB; rw [if_neg hpos, List.append_nil, hZ]
    have HZL : Hid (Z.length = (num s.id).length + (num n).length + (num ack).length) := by show _ = _; rw [← hZ]; simp only [List.length_append]
    rw [hZ2] at HP HBB hBL
    have HZ := Lib.hid hZ
    clear hZ hZ2
    go_wp2_with (first
      | (go_at_call 43; refine (HH.out _ _ _ _ _ _ S13 (fun w' A B h => (h.sel [5]).own_rd) rfl (S13.sel [5]).own_len.2.1 (S13.sel [5]).own_len.2.2.1).mono ?_; unfold HearsPost; rintro e w14 ⟨rfl, S14⟩)
      | (go_at_call 46; refine (r4Encode_any (xs := Z) S8 (fun w' h => h.own_rd) HZL.out HBB.out (by omega)).mono ?_; rw [HP.out]; unfold Encoded; rintro e w11 ⟨a11, n11, rfl, S11⟩; dsimp only at S11 ⊢; obtain ⟨hs, -, -, S12⟩ := WAY_out ((DL_open.2 ⟨ra, rc, S11.sel [4, 4]⟩).sel [7]); have S13 := S12.sel [8, 0, 0, 6, 0])
      | (go_at_call 44; refine (refNum_any S6 ack hk.1 hk.2).mono ?_; rintro e w7 ⟨a7, n7, rfl, S7⟩)
      | (at_builtin; refine wpList_append_sat rfl (.tmp 123) (.tmp 126) _ rfl 5 i0 (.int .u8 0) 1 1 Try.underlying29 hi hz0 hz1 hz2 rfl (by decide) S7.swap rfl rfl S7.own_rd (by rw [bv_length, Nat.mul_one]) (bv_one _) (by unfold maxLen; omega) (by omega) ?_; intro a8 n8 w8 S8; rw [← bv_append, HZ.out] at S8; have hg2 := S8.cell 5 rfl 2; have hg4 := S8.cell 5 rfl 4; simp only [List.getElem?_cons_zero, List.getElem?_cons_succ] at hg2 hg4))
    go_ret
    exact ⟨rfl, (S14.sel [3, 3, 3, 3, 3]).tail.tail.tail.tail.tail⟩
end Go.Proofs.Ytdgalljalcediaa
end
