/-
  link: Tick.
-/
import Derived.Test.YtdgalljalcediaaLi3
namespace Go.Proofs.Ytdgalljalcediaa
open Go.RowKit Go.Sep Go.Oct
set_option linter.unusedSimpArgs false

theorem tick_none (w : World) : Calls Try.prog 22 #[.pointer none] w fun e w' => e = .returned (.slice none 0 0) ∧ w = w' := by
  go_enter Try.func22, Try.ntmps22
  go_wp2_with fail
  go_ret
  exact ⟨rfl, rfl⟩
def tickO (s : LS) (k : Nat) : List (List Int) := (List.range k).map fun j : Nat => packP s.id (s.first + j) s.came (s.rows[j]?.getD [])
theorem tickO_length (s : LS) (k : Nat) : (tickO s k).length = k := by simp [tickO]
theorem tickO_succ (s : LS) (k : Nat) : tickO s (k + 1) = tickO s k ++ [packP s.id (s.first + k) s.came (s.rows[k]?.getD [])] := by
  unfold tickO
  rw [List.range_succ, List.map_append]
  rfl

set_option maxRecDepth 100000 in
set_option maxHeartbeats 6400000 in
theorem tick_any {W0 w : World} {L : List Asn} {g : Nat} {s : LS} {N : Int} (S : Sat W0 w (PL g s :: L)) (ok : s.Ok N) (hN : N ≤ 1000000000000) :
    Calls Try.prog 22 #[.pointer (some ⟨g, 0, none⟩)] w (Outs W0 (PL g (tickP s).2 :: L) (tickP s).1) := by
  obtain ⟨ra, rc, S0⟩ := PL_open.1 S
  have c3 := S0.cell 0 rfl 3
  have c5 := S0.cell 0 rfl 5
  have f5 := S0.frozen 0 rfl 5
  simp only [lkc, List.getElem?_cons_zero, List.getElem?_cons_succ] at c3 c5
  by_cases h1 : s.under = 0
  · have hP : tickP s = ([], { s with waited := 0 }) := by unfold tickP; rw [if_pos h1]
    rw [hP]
    have S1 := S0.setCell (k := 5) (v := .int .i64 0) 0 rfl
    rw [h1] at c3
    clear h1
    go_enter Try.func22, Try.ntmps22
    go_wp2_with fail
    go_ret
    exact ⟨none, 0, rfl, brs_none (PL_open.2 ⟨ra, rc, S1⟩)⟩
  have hu : (((s.under : Nat) : Int) == 0) = false := by simpa using h1
  have hwr : IntKind.i64.wrap (s.waited + 1) = s.waited + 1 := by have := ok.w0; have := ok.w5; rw [IntKind.wrap_i64]; omega
  have S1 := S0.setCell (k := 5) (v := .int .i64 (s.waited + 1)) 0 rfl
  by_cases h2 : s.waited + 1 < 5
  · have hP : tickP s = ([], { s with waited := s.waited + 1 }) := by unfold tickP; rw [if_neg h1, if_pos h2]
    rw [hP]
    have hd : decide (s.waited + 1 < 5) = true := decide_eq_true h2
    clear h2
    go_enter Try.func22, Try.ntmps22
    go_wp2_with fail
    go_ret
    exact ⟨none, 0, rfl, brs_none (PL_open.2 ⟨ra, rc, S1⟩)⟩
  have hP : tickP s = (tickO s s.under, { s with waited := 0, sent := s.sent + s.under }) := by unfold tickP; rw [if_neg h1, if_neg h2]; rfl
  rw [hP]
  have hd : decide (s.waited + 1 < 5) = false := decide_eq_false h2
  obtain ⟨hs, -, hl, S2⟩ := brs_out S1.swap
  have S3 : Sat W0 _ (LK g s.id (.slice ra s.rows.length rc) s.first (s.under : Int) s.came (s.waited + 1) s.sent s.vain :: _) := S2.sel [2]
  obtain ⟨i0, hi, hz0, hz1, hz2⟩ := info_parts Try.infoR
  have hO := Lib.hid ok
  have hul := ok.ul
  have hu16 := ok.u16
  have hlen := ok.len
  have hf1 := ok.f1
  have hfN := ok.fN
  have hc0 := ok.c0
  have hcN := ok.cN
  have hs0 := ok.s0
  have hsN := ok.sN
  have HN := Lib.hid hN
  clear S S0 S1 S2 ok hN h2 hP
  go_enter Try.func22, Try.ntmps22
  go_wp2_with fail
  go_loopw [3, 31] (fun o i wr => ∃ (k : Nat) (ao : Option Addr) (cp : Nat) (wt : Int), k ≤ s.under ∧ o = .slice ao k cp ∧ i = .int .i64 k ∧ Hid (wt = if k = 0 then s.waited + 1 else 0) ∧ Sat W0 wr (LK g s.id (.slice ra s.rows.length rc) s.first (s.under : Int) s.came wt (s.sent + k) s.vain :: slc 29 1 ra s.rows.length rc (hs.map hv) :: rowsB hs s.rows :: brs ao k cp (tickO s k) :: L)) (fun o _ _ => s.under - lenV o)
  case atStart =>
    refine ⟨0, none, 0, s.waited + 1, by omega, rfl, rfl, rfl, ?_⟩
    have S4 := brs_none S3
    simp only [Int.natCast_zero, Int.add_zero]
    exact S4.sel [1, 1, 1]
  case round =>
    clear S3 c3 c5 f5
    obtain ⟨k, ao, cp, wt, hk, rfl, rfl, HW, S4⟩ := hrel
    have k0 : (0 : Int) ≤ (k : Int) := by omega
    by_cases hlt : k < s.under
    · have hcond : decide ((k : Int) < ((s.under : Nat) : Int)) = true := decide_eq_true (by omega)
      obtain ⟨x, hx⟩ : ∃ x, s.rows[k]? = some x := ⟨s.rows[k]'(by omega), List.getElem?_eq_getElem _⟩
      obtain ⟨xa, xc, hhx, -, -, -⟩ := rowsB_at (S4.sel [2]) hx
      have hcell := (S4.sel [1]).own_rd k (hv (xa, x.length, xc)) (by rw [List.getElem?_map, hhx]; rfl)
      obtain ⟨rb, ro, rfl, ce⟩ := hcell
      have hrow := (hO.out).row x (List.mem_of_getElem? hx)
      have hid := (hO.out).id
      have HHX := Lib.hid hhx
      have HX := Lib.hid hx
      have HRX := Lib.hid (fun (w' : World) (h : Sat W0 w' (slc 29 1 (some ⟨rb, ro, none⟩) s.rows.length rc (hs.map hv) :: rowsB hs s.rows :: brs ao k cp (tickO s k) :: L)) => show Rd w' xa (bv x) by
        obtain ⟨ya, yc, hy, hr, -, -⟩ := rowsB_at (h.sel [1]) hx
        rw [hhx] at hy
        cases hy
        exact hr)
      clear hx hhx ce
      have u1 : (k : Int) < ((s.rows.length : Nat) : Int) := by omega
      have hw1 : IntKind.i64.wrap (s.first + (k : Int)) = s.first + (k : Int) := by have := HN.out; rw [IntKind.wrap_i64]; omega
      have hw2 : IntKind.i64.wrap ((k : Int) + 1) = (k : Int) + 1 := by rw [IntKind.wrap_i64]; omega
      have HC := Lib.hid (fun (w' : World) (M : List Asn) (wt st : Int) (h : Sat W0 w' (LK g s.id (.slice (some ⟨rb, ro, none⟩) s.rows.length rc) s.first (s.under : Int) s.came wt st s.vain :: slc 29 1 (some ⟨rb, ro, none⟩) s.rows.length rc (hs.map hv) :: M)) =>
        (⟨(h.cell 0 rfl 2 : _), (h.cell 0 rfl 1 : _), h.tail.own_rd.at (j := k) (u := .slice xa x.length xc) (by rw [List.getElem?_map, HHX.out]; rfl)⟩ :
          w'.cell? ⟨g, 2, none⟩ = some (.int .i64 s.first) ∧ w'.cell? ⟨g, 1, none⟩ = some (.slice (some ⟨rb, ro, none⟩) s.rows.length rc) ∧ w'.cell? ⟨rb, ro + k, none⟩ = some (.slice xa x.length xc)))
      have S5 : Sat W0 wr.drew (LK g s.id (.slice (some ⟨rb, ro, none⟩) s.rows.length rc) s.first (s.under : Int) s.came wt (s.sent + k) s.vain :: _) := S4.drew
      go_wp2_with fail
      clear S4
      refine wp_region_drawn (N := 19) (LN := #[false, false, false, false, false, false, false, false, false, false, false, false, false, false, false, false, false, false, false]) (by kernel_rfl) (by kernel_rfl) (by kernel_rfl) ?_
      generalize wr.drew = w5 at S5 ⊢
      refine wpAny_held (fun w' => w'.cell? ⟨g, 2, none⟩ = some (.int .i64 s.first) ∧ w'.cell? ⟨g, 1, none⟩ = some (.slice (some ⟨rb, ro, none⟩) s.rows.length rc) ∧ w'.cell? ⟨rb, ro + k, none⟩ = some (.slice xa x.length xc)) (HC.out _ _ _ _ S5) (fun hHeld => ?_)
      refine wpAnyH_tk (i := 0) (v := ?_) (LN := #[true, false, false, false, false, false, false, false, false, false, false, false, false, false, false, false, false, false, false]) rfl (by kernel_rfl) (by kernel_rfl) (by kernel_rfl) (fun _ _ _ h => h) (by kernel_rfl) (by rfl) (by assumption) ?_ ?_
      rotate_left
      · intro w hSw; (try dsimp only at hSw); first | (go_simp; done) | (go_simp; with_reducible rfl)
      try simp only [Act.put, List.getElem_toArray, List.getElem_cons_zero, List.getElem_cons_succ, List.setIfInBounds_toArray, List.set_cons_zero, List.set_cons_succ]
      refine wpAnyH_tk (i := 1) (v := ?_) (LN := #[true, true, false, false, false, false, false, false, false, false, false, false, false, false, false, false, false, false, false]) rfl (by kernel_rfl) (by kernel_rfl) (by kernel_rfl) (fun _ _ _ h => h) (by kernel_rfl) (by rfl) (by assumption) ?_ ?_
      rotate_left
      · intro w hSw; (try dsimp only at hSw); first | (go_simp; done) | (go_simp; with_reducible rfl)
      try simp only [Act.put, List.getElem_toArray, List.getElem_cons_zero, List.getElem_cons_succ, List.setIfInBounds_toArray, List.set_cons_zero, List.set_cons_succ]
      refine wpAnyH_tk (i := 2) (v := ?_) (LN := #[true, true, true, false, false, false, false, false, false, false, false, false, false, false, false, false, false, false, false]) rfl (by kernel_rfl) (by kernel_rfl) (by kernel_rfl) (fun _ _ _ h => h) (by kernel_rfl) (by rfl) (by assumption) ?_ ?_
      rotate_left
      · intro w hSw; (try dsimp only at hSw); first | (go_simp; done) | (go_simp; with_reducible rfl)
      try simp only [Act.put, List.getElem_toArray, List.getElem_cons_zero, List.getElem_cons_succ, List.setIfInBounds_toArray, List.set_cons_zero, List.set_cons_succ]
      refine wpAnyH_tk (i := 3) (v := ?_) (LN := #[true, true, true, true, false, false, false, false, false, false, false, false, false, false, false, false, false, false, false]) rfl (by kernel_rfl) (by kernel_rfl) (by kernel_rfl) (fun _ _ _ h => h) (by kernel_rfl) (by rfl) (by assumption) ?_ ?_
      rotate_left
      · intro w hSw; (try dsimp only at hSw); first | (go_simp; done) | (go_simp; with_reducible rfl)
      try simp only [Act.put, List.getElem_toArray, List.getElem_cons_zero, List.getElem_cons_succ, List.setIfInBounds_toArray, List.set_cons_zero, List.set_cons_succ]
      refine wpAnyH_tk (i := 4) (v := ?_) (LN := #[true, true, true, true, true, false, false, false, false, false, false, false, false, false, false, false, false, false, false]) rfl (by kernel_rfl) (by kernel_rfl) (by kernel_rfl) (fun _ _ _ h => h) (by kernel_rfl) (by rfl) (by assumption) ?_ ?_
      rotate_left
      · intro w hSw; (try dsimp only at hSw); first | (go_simp; done) | (go_simp; with_reducible rfl)
      try simp only [Act.put, List.getElem_toArray, List.getElem_cons_zero, List.getElem_cons_succ, List.setIfInBounds_toArray, List.set_cons_zero, List.set_cons_succ]
      refine wpAnyH_tk (i := 5) (v := ?_) (LN := #[true, true, true, true, true, true, false, false, false, false, false, false, false, false, false, false, false, false, false]) rfl (by kernel_rfl) (by kernel_rfl) (by kernel_rfl) (fun _ _ _ h => h) (by kernel_rfl) (by rfl) (by assumption) ?_ ?_
      rotate_left
      · intro w hSw; (try dsimp only at hSw); first | (go_simp; done) | (go_simp; with_reducible rfl)
      try simp only [Act.put, List.getElem_toArray, List.getElem_cons_zero, List.getElem_cons_succ, List.setIfInBounds_toArray, List.set_cons_zero, List.set_cons_succ]
      refine wpAnyH_tk (i := 6) (v := ?_) (LN := #[true, true, true, true, true, true, true, false, false, false, false, false, false, false, false, false, false, false, false]) rfl (by kernel_rfl) (by kernel_rfl) (by kernel_rfl) (fun _ _ _ h => h) (by kernel_rfl) (by rfl) (by assumption) ?_ ?_
      rotate_left
      · intro w hSw; (try dsimp only at hSw); first | (go_simp; done) | (go_simp; with_reducible rfl)
      try simp only [Act.put, List.getElem_toArray, List.getElem_cons_zero, List.getElem_cons_succ, List.setIfInBounds_toArray, List.set_cons_zero, List.set_cons_succ]
      refine wpAnyH_tk (i := 7) (v := ?_) (LN := #[true, true, true, true, true, true, true, true, false, false, false, false, false, false, false, false, false, false, false]) rfl (by kernel_rfl) (by kernel_rfl) (by kernel_rfl) (fun _ _ _ h => h) (by kernel_rfl) (by rfl) (by assumption) ?_ ?_
      rotate_left
      · intro w hSw; (try dsimp only at hSw); first | (go_simp; done) | (go_simp; with_reducible rfl)
      try simp only [Act.put, List.getElem_toArray, List.getElem_cons_zero, List.getElem_cons_succ, List.setIfInBounds_toArray, List.set_cons_zero, List.set_cons_succ]
      refine wpAnyH_tk (i := 8) (v := ?_) (LN := #[true, true, true, true, true, true, true, true, true, false, false, false, false, false, false, false, false, false, false]) rfl (by kernel_rfl) (by kernel_rfl) (by kernel_rfl) (fun _ _ _ h => h) (by kernel_rfl) (by rfl) (by assumption) ?_ ?_
      rotate_left
      · intro w hSw; (try dsimp only at hSw); first | (go_simp; done) | (go_simp; with_reducible rfl)
      try simp only [Act.put, List.getElem_toArray, List.getElem_cons_zero, List.getElem_cons_succ, List.setIfInBounds_toArray, List.set_cons_zero, List.set_cons_succ]
      refine wpAnyH_tk (i := 9) (v := ?_) (LN := #[true, true, true, true, true, true, true, true, true, true, false, false, false, false, false, false, false, false, false]) rfl (by kernel_rfl) (by kernel_rfl) (by kernel_rfl) (fun _ _ _ h => h) (by kernel_rfl) (by rfl) (by assumption) ?_ ?_
      rotate_left
      · intro w hSw; (try dsimp only at hSw); first | (go_simp; done) | (go_simp; with_reducible rfl)
      try simp only [Act.put, List.getElem_toArray, List.getElem_cons_zero, List.getElem_cons_succ, List.setIfInBounds_toArray, List.set_cons_zero, List.set_cons_succ]
      refine wpAnyH_tk (i := 10) (v := ?_) (LN := #[true, true, true, true, true, true, true, true, true, true, true, false, false, false, false, false, false, false, false]) rfl (by kernel_rfl) (by kernel_rfl) (by kernel_rfl) (fun _ _ _ h => h) (by kernel_rfl) (by rfl) (by assumption) ?_ ?_
      rotate_left
      · intro w hSw; (try dsimp only at hSw); first | (go_simp; done) | (go_simp; with_reducible rfl)
      try simp only [Act.put, List.getElem_toArray, List.getElem_cons_zero, List.getElem_cons_succ, List.setIfInBounds_toArray, List.set_cons_zero, List.set_cons_succ]
      refine wpAnyH_tk (i := 11) (v := ?_) (LN := #[true, true, true, true, true, true, true, true, true, true, true, true, false, false, false, false, false, false, false]) rfl (by kernel_rfl) (by kernel_rfl) (by kernel_rfl) (fun _ _ _ h => h) (by kernel_rfl) (by rfl) (by assumption) ?_ ?_
      rotate_left
      · intro w hSw; (try dsimp only at hSw); first | (go_simp; done) | (go_simp; with_reducible rfl)
      try simp only [Act.put, List.getElem_toArray, List.getElem_cons_zero, List.getElem_cons_succ, List.setIfInBounds_toArray, List.set_cons_zero, List.set_cons_succ]
      refine wpAnyH_tk (i := 12) (v := ?_) (LN := #[true, true, true, true, true, true, true, true, true, true, true, true, true, false, false, false, false, false, false]) rfl (by kernel_rfl) (by kernel_rfl) (by kernel_rfl) (fun _ _ _ h => h) (by kernel_rfl) (by rfl) (by assumption) ?_ ?_
      rotate_left
      · intro w hSw; (try dsimp only at hSw); first | (go_simp; done) | (go_simp; with_reducible rfl)
      try simp only [Act.put, List.getElem_toArray, List.getElem_cons_zero, List.getElem_cons_succ, List.setIfInBounds_toArray, List.set_cons_zero, List.set_cons_succ]
      refine wpAnyH_tk (i := 13) (v := ?_) (LN := #[true, true, true, true, true, true, true, true, true, true, true, true, true, true, false, false, false, false, false]) rfl (by kernel_rfl) (by kernel_rfl) (by kernel_rfl) (fun _ _ _ h => h) (by kernel_rfl) (by rfl) (by assumption) ?_ ?_
      rotate_left
      · intro w hSw; (try dsimp only at hSw); first | (go_simp; done) | (go_simp; with_reducible rfl)
      try simp only [Act.put, List.getElem_toArray, List.getElem_cons_zero, List.getElem_cons_succ, List.setIfInBounds_toArray, List.set_cons_zero, List.set_cons_succ]
      refine wpAnyH_tk (i := 14) (v := ?_) (LN := #[true, true, true, true, true, true, true, true, true, true, true, true, true, true, true, false, false, false, false]) rfl (by kernel_rfl) (by kernel_rfl) (by kernel_rfl) (fun _ _ _ h => h) (by kernel_rfl) (by rfl) (by assumption) ?_ ?_
      rotate_left
      · intro w hSw; (try dsimp only at hSw); first | (go_simp; done) | (go_simp; with_reducible rfl)
      try simp only [Act.put, List.getElem_toArray, List.getElem_cons_zero, List.getElem_cons_succ, List.setIfInBounds_toArray, List.set_cons_zero, List.set_cons_succ]
      refine wpAnyH_one (i := 15) (LN := #[true, true, true, true, true, true, true, true, true, true, true, true, true, true, true, true, false, false, false]) (by kernel_rfl) rfl (by kernel_rfl) ?_
      intro K hK
      go_simp
      go_at_call 31
      refine (packet_any S5 (s.first + (k : Int)) HRX.out rfl hrow.1 hid (by have := HN.out; unfold I64; omega) (by have := HN.out; unfold I64; omega) (by have := HN.out; omega) (by omega) (wt := 0) (if_pos (by omega))).mono ?_
      unfold Packed
      rintro e w6 ⟨pa, pc, rfl, S6⟩
      go_wp2_with fail
      refine hK.out _ _ (HC.out _ _ _ _ S6.tail) ?_
      clear hK K hHeld
      intro hHeld
      try simp only [Act.put, List.getElem_toArray, List.getElem_cons_zero, List.getElem_cons_succ, List.setIfInBounds_toArray, List.set_cons_zero, List.set_cons_succ]
      refine wpAnyH_one (i := 16) (LN := #[true, true, true, true, true, true, true, true, true, true, true, true, true, true, true, true, true, false, false]) (by kernel_rfl) rfl (by kernel_rfl) ?_
      intro K hK
      go_simp
      have S7 := S6.alloc [.slice pa (packP s.id (s.first + (k : Int)) s.came x).length pc] 29
      refine hK.out _ _ (HC.out _ _ _ _ S7.tail.tail) ?_
      clear hK K hHeld
      intro hHeld
      try simp only [Act.put, List.getElem_toArray, List.getElem_cons_zero, List.getElem_cons_succ, List.setIfInBounds_toArray, List.set_cons_zero, List.set_cons_succ]
      obtain ⟨ho, -, hol, S8⟩ := brs_out (S7.sel [5])
      refine wpAnyH_one (i := 17) (LN := #[true, true, true, true, true, true, true, true, true, true, true, true, true, true, true, true, true, true, false]) (by kernel_rfl) rfl (by kernel_rfl) ?_
      intro K hK
      refine step_append_sat rfl _ _ _ rfl 29 i0 _ 1 24 Try.underlying25 hi hz0 hz1 hz2 rfl (by decide) S8 rfl rfl (Rd.lit (S7.block 0 rfl).1) (by rfl) (by simp [Value.oneCell']) (by unfold maxLen; omega) (by omega) ?_
      intro ao9 cp9 w9 S9
      refine hK.out _ _ (HC.out _ _ _ _ (S9.sel [4, 4])) ?_
      clear hK K hHeld
      intro hHeld
      try simp only [Act.put, List.getElem_toArray, List.getElem_cons_zero, List.getElem_cons_succ, List.setIfInBounds_toArray, List.set_cons_zero, List.set_cons_succ]
      refine wpAnyH_tk (i := 18) (v := ?_) (LN := #[true, true, true, true, true, true, true, true, true, true, true, true, true, true, true, true, true, true, true]) rfl (by kernel_rfl) (by kernel_rfl) (by kernel_rfl) (fun _ _ _ h => h) (by kernel_rfl) (by rfl) (by assumption) ?_ ?_
      rotate_left
      · intro w hSw; (try dsimp only at hSw); first | (go_simp; done) | (go_simp; with_reducible rfl)
      try simp only [Act.put, List.getElem_toArray, List.getElem_cons_zero, List.getElem_cons_succ, List.setIfInBounds_toArray, List.set_cons_zero, List.set_cons_succ]
      refine ⟨by kernel_rfl, ?_⟩
      try simp only [Act.put, List.getElem_toArray, List.getElem_cons_zero, List.getElem_cons_succ, List.setIfInBounds_toArray, List.set_cons_zero, List.set_cons_succ]
      clear hHeld S6 S7 S8
      go_wp2_with fail
      have hout : tickO s (k + 1) = tickO s k ++ [packP s.id (s.first + (k : Int)) s.came x] := by
        rw [tickO_succ, HX.out]
        rfl
      refine ⟨⟨k + 1, ao9, cp9, 0, by omega, rfl, by go_num, by rw [if_neg (by omega)]; exact rfl, ?_⟩, by simp [lenV]; omega⟩
      have T1 := brs_push (tickO_length s k) (S9.sel [0, 2, 0])
      rw [← hout] at T1
      have T2 := ((T1.sel [1]).tail.sel [1, 1, 1])
      have e1 : s.sent + ((k + 1 : Nat) : Int) = s.sent + (k : Int) + 1 := by omega
      rw [e1]
      exact T2
    · have hcond : decide ((k : Int) < ((s.under : Nat) : Int)) = false := decide_eq_false (by omega)
      go_wp2_with fail
      go_ret
      obtain rfl : k = s.under := by omega
      refine ⟨ao, cp, by rw [tickO_length]; rfl, ?_⟩
      rw [tickO_length]
      have T1 := S4.sel [3]
      have T2 := (brs_in rfl (T1.sel [2, 2]) : Sat W0 _ (brs ra s.rows.length rc s.rows :: brs ao s.under cp (tickO s s.under) :: _))
      refine Sat.swap (PL_open.2 ⟨ra, rc, ?_⟩)
      have T3 := T2.sel [2, 0]
      have ew : wt = 0 := by rw [HW.out, if_neg h1]
      rw [ew] at T3
      exact T3
end Go.Proofs.Ytdgalljalcediaa
