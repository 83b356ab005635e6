/-
  link: Send.
-/
import Derived.Test.YtdgalljalcediaaLi3
namespace Go.Proofs.Ytdgalljalcediaa
open Go.RowKit Go.Sep Go.Oct
set_option linter.unusedSimpArgs false

def Sent (W0 : World) (L : List Asn) (g : Nat) (r : List (List Int) × Int × LS) (e : Ending) (w' : World) : Prop :=
  ∃ ao cap, e = .returned (.tuple #[.slice ao r.1.length cap, .int .i64 r.2.1]) ∧ Sat W0 w' (brs ao r.1.length cap r.1 :: PL g r.2.2 :: L)
theorem send_none (w : World) (v : Value) : Calls Try.prog 14 #[.pointer none, v] w fun e w' => e = .returned (.tuple #[.slice none 0 0, .int .i64 1]) ∧ w = w' := by
  go_enter Try.func14, Try.ntmps14
  go_wp2_with fail
  go_ret2
  exact ⟨rfl, rfl⟩

set_option maxRecDepth 100000 in
set_option maxHeartbeats 6400000 in
theorem send_any {W0 w : World} {L : List Asn} {g : Nat} {s : LS} {N : Int} (S : Sat W0 w (PL g s :: L)) (ok : s.Ok N) (hN : N ≤ 1000000000000) {a : Option Addr} {m c : Nat} {p : List Int} (hR : Rd w a (bv p)) (hm : p.length = m) (h0 : a = none → c = 0) (hB : Bytes p) (hb : m ≤ 1000000000) :
    Calls Try.prog 14 #[.pointer (some ⟨g, 0, none⟩), .slice a m c] w (Sent W0 L g (sendP s p)) := by
  have HM := Lib.hid hm
  by_cases h1 : 4096 < m
  · have hP : sendP s p = ([], 5, s) := by unfold sendP; rw [if_pos (by omega)]
    rw [hP]
    have hd : decide ((4096 : Int) < (m : Int)) = true := decide_eq_true (by omega)
    clear hm
    go_enter Try.func14, Try.ntmps14
    go_wp2_with fail
    go_ret2
    exact ⟨none, 0, rfl, brs_none S⟩
  have hd : decide ((4096 : Int) < (m : Int)) = false := decide_eq_false (by omega)
  obtain ⟨ra, rc, S0⟩ := PL_open.1 S
  by_cases h2 : 1000 ≤ s.rows.length
  · have hP : sendP s p = ([], 6, s) := by unfold sendP; rw [if_neg (by omega), if_pos h2]
    rw [hP]
    have hd2 : decide ((1000 : Int) ≤ ((s.rows.length : Nat) : Int)) = true := decide_eq_true (by omega)
    have c1 := S0.cell 0 rfl 1
    simp only [lkc, List.getElem?_cons_zero, List.getElem?_cons_succ] at c1
    clear hm
    go_enter Try.func14, Try.ntmps14
    go_wp2_with fail
    go_ret2
    exact ⟨none, 0, rfl, brs_none S⟩
  have hd2 : decide ((1000 : Int) ≤ ((s.rows.length : Nat) : Int)) = false := decide_eq_false (by omega)
  have hP : sendP s p = ((fillP { s with rows := s.rows ++ [p] }).1, 0, (fillP { s with rows := s.rows ++ [p] }).2) := by unfold sendP; rw [if_neg (by omega), if_neg h2]
  rw [hP]
  have OK1 := Lib.hid (ok.push hB (by omega) (by omega))
  obtain ⟨hs, -, hl, S1⟩ := brs_out S0.swap
  have S2 := S1.sel [2]
  have c1 := S2.cell 0 rfl 1
  simp only [lkc, List.getElem?_cons_zero, List.getElem?_cons_succ] at c1
  obtain ⟨i0, hi, hz0, hz1, hz2⟩ := info_parts Try.infoR
  have hlen := (S1.own_len)
  clear hm hP S S0
  go_enter Try.func14, Try.ntmps14
  go_wp2_with fail
  have hR1 : Rd w.drew a (bv p) := hR
  have S3 := S2.drew
  clear S1 S2 c1 hR
  refine wp_region_drawn (N := 12) (LN := #[false, false, false, false, false, false, false, false, false, false, false, false]) (by kernel_rfl) (by kernel_rfl) (by kernel_rfl) ?_
  generalize w.drew = w3 at S3 hR1 ⊢
  refine wpAny_loc (i := 0) (v := ?_) (LN := #[true, false, false, false, false, false, false, false, false, false, false, false]) rfl (by kernel_rfl) (by kernel_rfl) (by kernel_rfl) (fun _ _ _ h => h) (by kernel_rfl) (by rfl) ?_ ?_
  rotate_left
  · intro w; first | (go_simp; done) | (go_simp; with_reducible rfl)
  try simp only [Act.put, List.getElem_toArray, List.getElem_cons_zero, List.getElem_cons_succ, List.setIfInBounds_toArray, List.set_cons_zero, List.set_cons_succ]
  refine wpAny_loc (i := 1) (v := ?_) (LN := #[true, true, false, false, false, false, false, false, false, false, false, false]) rfl (by kernel_rfl) (by kernel_rfl) (by kernel_rfl) (fun _ _ _ h => h) (by kernel_rfl) (by rfl) ?_ ?_
  rotate_left
  · intro w; first | (go_simp; done) | (go_simp; with_reducible rfl)
  try simp only [Act.put, List.getElem_toArray, List.getElem_cons_zero, List.getElem_cons_succ, List.setIfInBounds_toArray, List.set_cons_zero, List.set_cons_succ]
  refine wpAny_loc (i := 2) (v := ?_) (LN := #[true, true, true, false, false, false, false, false, false, false, false, false]) rfl (by kernel_rfl) (by kernel_rfl) (by kernel_rfl) (fun _ _ _ h => h) (by kernel_rfl) (by rfl) ?_ ?_
  rotate_left
  · intro w; first | (go_simp; done) | (go_simp; with_reducible rfl)
  try simp only [Act.put, List.getElem_toArray, List.getElem_cons_zero, List.getElem_cons_succ, List.setIfInBounds_toArray, List.set_cons_zero, List.set_cons_succ]
  refine wpAny_loc (i := 3) (v := ?_) (LN := #[true, true, true, true, false, false, false, false, false, false, false, false]) rfl (by kernel_rfl) (by kernel_rfl) (by kernel_rfl) (fun _ _ _ h => h) (by kernel_rfl) (by rfl) ?_ ?_
  rotate_left
  · intro w; first | (go_simp; done) | (go_simp; with_reducible rfl)
  try simp only [Act.put, List.getElem_toArray, List.getElem_cons_zero, List.getElem_cons_succ, List.setIfInBounds_toArray, List.set_cons_zero, List.set_cons_succ]
  refine wpAny_loc (i := 5) (v := ?_) (LN := #[true, true, true, true, false, true, false, false, false, false, false, false]) rfl (by kernel_rfl) (by kernel_rfl) (by kernel_rfl) (fun _ _ _ h => h) (by kernel_rfl) (by rfl) ?_ ?_
  rotate_left
  · intro w; first | (go_simp; done) | (go_simp; with_reducible rfl)
  try simp only [Act.put, List.getElem_toArray, List.getElem_cons_zero, List.getElem_cons_succ, List.setIfInBounds_toArray, List.set_cons_zero, List.set_cons_succ]
  refine wpAny_two (i := 4) (j := 6) (Li := #[true, true, true, true, true, true, false, false, false, false, false, false]) (Lj := #[true, true, true, true, false, true, true, false, false, false, false, false]) (by kernel_rfl) rfl rfl (by kernel_rfl) (by kernel_rfl) ?_ ?_
  · intro K hK
    have cc := S3.cell 0 rfl 1
    simp only [lkc, List.getElem?_cons_zero, List.getElem?_cons_succ] at cc
    go_simp
    have Sc1 := S3
    clear cc
    refine hK.out _ _ ?_
    clear hK K
    try simp only [Act.put, List.getElem_toArray, List.getElem_cons_zero, List.getElem_cons_succ, List.setIfInBounds_toArray, List.set_cons_zero, List.set_cons_succ]
    refine wpAny_one (i := 6) (LN := #[true, true, true, true, true, true, true, false, false, false, false, false]) (by kernel_rfl) rfl (by kernel_rfl) ?_
    intro K hK
    go_simp
    go_at_call 28
    refine (clone_any Sc1 hR1 HM.out h0 (by omega)).mono ?_
    rintro e w6 ⟨pa, pc, rfl, Sc2⟩
    go_wp2_with fail
    refine hK.out _ _ ?_
    clear hK K
    try simp only [Act.put, List.getElem_toArray, List.getElem_cons_zero, List.getElem_cons_succ, List.setIfInBounds_toArray, List.set_cons_zero, List.set_cons_succ]
    refine wpAny_one (i := 7) (LN := #[true, true, true, true, true, true, true, true, false, false, false, false]) (by kernel_rfl) rfl (by kernel_rfl) ?_
    intro K hK
    go_simp
    have Sc3 := Sc2.alloc [.slice pa m pc] 29
    refine hK.out _ _ ?_
    clear hK K
    try simp only [Act.put, List.getElem_toArray, List.getElem_cons_zero, List.getElem_cons_succ, List.setIfInBounds_toArray, List.set_cons_zero, List.set_cons_succ]
    refine wpAny_one (i := 8) (LN := #[true, true, true, true, true, true, true, true, true, false, false, false]) (by kernel_rfl) rfl (by kernel_rfl) ?_
    intro K hK
    refine step_append_sat rfl _ _ _ rfl 29 i0 _ 1 24 Try.underlying25 hi hz0 hz1 hz2 rfl (by decide) (Sc3.sel [3]) rfl rfl (Rd.lit (Sc3.block 0 rfl).1) (by rfl) (by simp [Value.oneCell']) (by unfold maxLen; omega) (by omega) ?_
    intro ao9 cp9 w9 S9
    refine hK.out _ _ ?_
    clear hK K
    try simp only [Act.put, List.getElem_toArray, List.getElem_cons_zero, List.getElem_cons_succ, List.setIfInBounds_toArray, List.set_cons_zero, List.set_cons_succ]
    refine wpAny_loc (i := 9) (v := ?_) (LN := #[true, true, true, true, true, true, true, true, true, true, false, false]) rfl (by kernel_rfl) (by kernel_rfl) (by kernel_rfl) (fun _ _ _ h => h) (by kernel_rfl) (by rfl) ?_ ?_
    rotate_left
    · intro w; first | (go_simp; done) | (go_simp; with_reducible rfl)
    try simp only [Act.put, List.getElem_toArray, List.getElem_cons_zero, List.getElem_cons_succ, List.setIfInBounds_toArray, List.set_cons_zero, List.set_cons_succ]
    refine wpAny_loc (i := 10) (v := ?_) (LN := #[true, true, true, true, true, true, true, true, true, true, true, false]) rfl (by kernel_rfl) (by kernel_rfl) (by kernel_rfl) (fun _ _ _ h => h) (by kernel_rfl) (by rfl) ?_ ?_
    rotate_left
    · intro w; first | (go_simp; done) | (go_simp; with_reducible rfl)
    try simp only [Act.put, List.getElem_toArray, List.getElem_cons_zero, List.getElem_cons_succ, List.setIfInBounds_toArray, List.set_cons_zero, List.set_cons_succ]
    refine wpAny_one (i := 11) (LN := #[true, true, true, true, true, true, true, true, true, true, true, true]) (by kernel_rfl) rfl (by kernel_rfl) ?_
    intro K hK
    have n1 := S9.cell 3 rfl 1
    have m1 := S9.frozen 3 rfl 1
    simp only [lkc, List.getElem?_cons_zero, List.getElem?_cons_succ] at n1
    have S10 := S9.setCell (k := 1) (v := .slice ao9 (s.rows.length + 1) cp9) 3 rfl
    go_simp
    refine hK.out _ _ ?_
    clear hK K
    try simp only [Act.put, List.getElem_toArray, List.getElem_cons_zero, List.getElem_cons_succ, List.setIfInBounds_toArray, List.set_cons_zero, List.set_cons_succ]
    refine ⟨by kernel_rfl, ?_⟩
    try simp only [Act.put, List.getElem_toArray, List.getElem_cons_zero, List.getElem_cons_succ, List.setIfInBounds_toArray, List.set_cons_zero, List.set_cons_succ]
    have hm := HM.out
    subst hm
    have T1 := brs_push rfl (S10.sel [0, 1, 2])
    have e1 : (s.rows ++ [p]).length = s.rows.length + 1 := by simp
    have S11 : Sat W0 _ (PL g { s with rows := s.rows ++ [p] } :: L) := PL_open.2 ⟨ao9, cp9, by unfold LKs; dsimp only; rw [e1]; exact (T1.sel [1]).tail.swap⟩
    clear S10 S9 n1 m1 T1
    go_wp2_with (go_at_call 29; refine (fills_any S11 OK1.out hN).mono ?_; unfold Outs; rintro e w11 ⟨ao, cp, rfl, S12⟩)
    go_ret2
    exact ⟨ao, cp, rfl, S12⟩
  · intro K hK
    go_simp
    go_at_call 28
    refine (clone_any S3 hR1 HM.out h0 (by omega)).mono ?_
    rintro e w6 ⟨pa, pc, rfl, Sc1⟩
    go_wp2_with fail
    refine hK.out _ _ ?_
    clear hK K
    try simp only [Act.put, List.getElem_toArray, List.getElem_cons_zero, List.getElem_cons_succ, List.setIfInBounds_toArray, List.set_cons_zero, List.set_cons_succ]
    refine wpAny_two (i := 4) (j := 7) (Li := #[true, true, true, true, true, true, true, false, false, false, false, false]) (Lj := #[true, true, true, true, false, true, true, true, false, false, false, false]) (by kernel_rfl) rfl rfl (by kernel_rfl) (by kernel_rfl) ?_ ?_
    · intro K hK
      have cc := Sc1.cell 1 rfl 1
      simp only [lkc, List.getElem?_cons_zero, List.getElem?_cons_succ] at cc
      go_simp
      have Sc2 := Sc1
      clear cc
      refine hK.out _ _ ?_
      clear hK K
      try simp only [Act.put, List.getElem_toArray, List.getElem_cons_zero, List.getElem_cons_succ, List.setIfInBounds_toArray, List.set_cons_zero, List.set_cons_succ]
      refine wpAny_one (i := 7) (LN := #[true, true, true, true, true, true, true, true, false, false, false, false]) (by kernel_rfl) rfl (by kernel_rfl) ?_
      intro K hK
      go_simp
      have Sc3 := Sc2.alloc [.slice pa m pc] 29
      refine hK.out _ _ ?_
      clear hK K
      try simp only [Act.put, List.getElem_toArray, List.getElem_cons_zero, List.getElem_cons_succ, List.setIfInBounds_toArray, List.set_cons_zero, List.set_cons_succ]
      refine wpAny_one (i := 8) (LN := #[true, true, true, true, true, true, true, true, true, false, false, false]) (by kernel_rfl) rfl (by kernel_rfl) ?_
      intro K hK
      refine step_append_sat rfl _ _ _ rfl 29 i0 _ 1 24 Try.underlying25 hi hz0 hz1 hz2 rfl (by decide) (Sc3.sel [3]) rfl rfl (Rd.lit (Sc3.block 0 rfl).1) (by rfl) (by simp [Value.oneCell']) (by unfold maxLen; omega) (by omega) ?_
      intro ao9 cp9 w9 S9
      refine hK.out _ _ ?_
      clear hK K
      try simp only [Act.put, List.getElem_toArray, List.getElem_cons_zero, List.getElem_cons_succ, List.setIfInBounds_toArray, List.set_cons_zero, List.set_cons_succ]
      refine wpAny_loc (i := 9) (v := ?_) (LN := #[true, true, true, true, true, true, true, true, true, true, false, false]) rfl (by kernel_rfl) (by kernel_rfl) (by kernel_rfl) (fun _ _ _ h => h) (by kernel_rfl) (by rfl) ?_ ?_
      rotate_left
      · intro w; first | (go_simp; done) | (go_simp; with_reducible rfl)
      try simp only [Act.put, List.getElem_toArray, List.getElem_cons_zero, List.getElem_cons_succ, List.setIfInBounds_toArray, List.set_cons_zero, List.set_cons_succ]
      refine wpAny_loc (i := 10) (v := ?_) (LN := #[true, true, true, true, true, true, true, true, true, true, true, false]) rfl (by kernel_rfl) (by kernel_rfl) (by kernel_rfl) (fun _ _ _ h => h) (by kernel_rfl) (by rfl) ?_ ?_
      rotate_left
      · intro w; first | (go_simp; done) | (go_simp; with_reducible rfl)
      try simp only [Act.put, List.getElem_toArray, List.getElem_cons_zero, List.getElem_cons_succ, List.setIfInBounds_toArray, List.set_cons_zero, List.set_cons_succ]
      refine wpAny_one (i := 11) (LN := #[true, true, true, true, true, true, true, true, true, true, true, true]) (by kernel_rfl) rfl (by kernel_rfl) ?_
      intro K hK
      have n1 := S9.cell 3 rfl 1
      have m1 := S9.frozen 3 rfl 1
      simp only [lkc, List.getElem?_cons_zero, List.getElem?_cons_succ] at n1
      have S10 := S9.setCell (k := 1) (v := .slice ao9 (s.rows.length + 1) cp9) 3 rfl
      go_simp
      refine hK.out _ _ ?_
      clear hK K
      try simp only [Act.put, List.getElem_toArray, List.getElem_cons_zero, List.getElem_cons_succ, List.setIfInBounds_toArray, List.set_cons_zero, List.set_cons_succ]
      refine ⟨by kernel_rfl, ?_⟩
      try simp only [Act.put, List.getElem_toArray, List.getElem_cons_zero, List.getElem_cons_succ, List.setIfInBounds_toArray, List.set_cons_zero, List.set_cons_succ]
      have hm := HM.out
      subst hm
      have T1 := brs_push rfl (S10.sel [0, 1, 2])
      have e1 : (s.rows ++ [p]).length = s.rows.length + 1 := by simp
      have S11 : Sat W0 _ (PL g { s with rows := s.rows ++ [p] } :: L) := PL_open.2 ⟨ao9, cp9, by unfold LKs; dsimp only; rw [e1]; exact (T1.sel [1]).tail.swap⟩
      clear S10 S9 n1 m1 T1
      go_wp2_with (go_at_call 29; refine (fills_any S11 OK1.out hN).mono ?_; unfold Outs; rintro e w11 ⟨ao, cp, rfl, S12⟩)
      go_ret2
      exact ⟨ao, cp, rfl, S12⟩
    · intro K hK
      go_simp
      have Sc2 := Sc1.alloc [.slice pa m pc] 29
      refine hK.out _ _ ?_
      clear hK K
      try simp only [Act.put, List.getElem_toArray, List.getElem_cons_zero, List.getElem_cons_succ, List.setIfInBounds_toArray, List.set_cons_zero, List.set_cons_succ]
      refine wpAny_one (i := 4) (LN := #[true, true, true, true, true, true, true, true, false, false, false, false]) (by kernel_rfl) rfl (by kernel_rfl) ?_
      intro K hK
      have cc := Sc2.cell 2 rfl 1
      simp only [lkc, List.getElem?_cons_zero, List.getElem?_cons_succ] at cc
      go_simp
      have Sc3 := Sc2
      clear cc
      refine hK.out _ _ ?_
      clear hK K
      try simp only [Act.put, List.getElem_toArray, List.getElem_cons_zero, List.getElem_cons_succ, List.setIfInBounds_toArray, List.set_cons_zero, List.set_cons_succ]
      refine wpAny_one (i := 8) (LN := #[true, true, true, true, true, true, true, true, true, false, false, false]) (by kernel_rfl) rfl (by kernel_rfl) ?_
      intro K hK
      refine step_append_sat rfl _ _ _ rfl 29 i0 _ 1 24 Try.underlying25 hi hz0 hz1 hz2 rfl (by decide) (Sc3.sel [3]) rfl rfl (Rd.lit (Sc3.block 0 rfl).1) (by rfl) (by simp [Value.oneCell']) (by unfold maxLen; omega) (by omega) ?_
      intro ao9 cp9 w9 S9
      refine hK.out _ _ ?_
      clear hK K
      try simp only [Act.put, List.getElem_toArray, List.getElem_cons_zero, List.getElem_cons_succ, List.setIfInBounds_toArray, List.set_cons_zero, List.set_cons_succ]
      refine wpAny_loc (i := 9) (v := ?_) (LN := #[true, true, true, true, true, true, true, true, true, true, false, false]) rfl (by kernel_rfl) (by kernel_rfl) (by kernel_rfl) (fun _ _ _ h => h) (by kernel_rfl) (by rfl) ?_ ?_
      rotate_left
      · intro w; first | (go_simp; done) | (go_simp; with_reducible rfl)
      try simp only [Act.put, List.getElem_toArray, List.getElem_cons_zero, List.getElem_cons_succ, List.setIfInBounds_toArray, List.set_cons_zero, List.set_cons_succ]
      refine wpAny_loc (i := 10) (v := ?_) (LN := #[true, true, true, true, true, true, true, true, true, true, true, false]) rfl (by kernel_rfl) (by kernel_rfl) (by kernel_rfl) (fun _ _ _ h => h) (by kernel_rfl) (by rfl) ?_ ?_
      rotate_left
      · intro w; first | (go_simp; done) | (go_simp; with_reducible rfl)
      try simp only [Act.put, List.getElem_toArray, List.getElem_cons_zero, List.getElem_cons_succ, List.setIfInBounds_toArray, List.set_cons_zero, List.set_cons_succ]
      refine wpAny_one (i := 11) (LN := #[true, true, true, true, true, true, true, true, true, true, true, true]) (by kernel_rfl) rfl (by kernel_rfl) ?_
      intro K hK
      have n1 := S9.cell 3 rfl 1
      have m1 := S9.frozen 3 rfl 1
      simp only [lkc, List.getElem?_cons_zero, List.getElem?_cons_succ] at n1
      have S10 := S9.setCell (k := 1) (v := .slice ao9 (s.rows.length + 1) cp9) 3 rfl
      go_simp
      refine hK.out _ _ ?_
      clear hK K
      try simp only [Act.put, List.getElem_toArray, List.getElem_cons_zero, List.getElem_cons_succ, List.setIfInBounds_toArray, List.set_cons_zero, List.set_cons_succ]
      refine ⟨by kernel_rfl, ?_⟩
      try simp only [Act.put, List.getElem_toArray, List.getElem_cons_zero, List.getElem_cons_succ, List.setIfInBounds_toArray, List.set_cons_zero, List.set_cons_succ]
      have hm := HM.out
      subst hm
      have T1 := brs_push rfl (S10.sel [0, 1, 2])
      have e1 : (s.rows ++ [p]).length = s.rows.length + 1 := by simp
      have S11 : Sat W0 _ (PL g { s with rows := s.rows ++ [p] } :: L) := PL_open.2 ⟨ao9, cp9, by unfold LKs; dsimp only; rw [e1]; exact (T1.sel [1]).tail.swap⟩
      clear S10 S9 n1 m1 T1
      go_wp2_with (go_at_call 29; refine (fills_any S11 OK1.out hN).mono ?_; unfold Outs; rintro e w11 ⟨ao, cp, rfl, S12⟩)
      go_ret2
      exact ⟨ao, cp, rfl, S12⟩
end Go.Proofs.Ytdgalljalcediaa
