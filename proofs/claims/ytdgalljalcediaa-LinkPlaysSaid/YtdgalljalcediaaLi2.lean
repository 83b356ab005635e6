/-
  link: an end in memory; fills.
-/
import Derived.Test.YtdgalljalcediaaLi1
import Derived.Test.YtdgalljalcediaaLiN
namespace Go.Proofs.Ytdgalljalcediaa
open Go.RowKit Go.Sep Go.Oct
set_option linter.unusedSimpArgs false

def LKs (g : Nat) (s : LS) (ao : Option Addr) (cap : Nat) : Asn := LK g s.id (.slice ao s.rows.length cap) s.first (s.under : Int) s.came s.waited s.sent s.vain
def PL (g : Nat) (s : LS) : Asn := exA fun (r : Option Addr × Nat) => star (LKs g s r.1 r.2) (brs r.1 s.rows.length r.2 s.rows)
theorem PL_open {W0 w : World} {L : List Asn} {g : Nat} {s : LS} : Sat W0 w (PL g s :: L) ↔ ∃ ao cap, Sat W0 w (LKs g s ao cap :: brs ao s.rows.length cap s.rows :: L) := by
  unfold PL
  rw [Sat.ex]
  constructor
  · rintro ⟨⟨ao, cap⟩, h⟩; exact ⟨ao, cap, Sat.star.1 h⟩
  · rintro ⟨ao, cap, h⟩; exact ⟨⟨ao, cap⟩, Sat.star.2 h⟩
def Outs (W0 : World) (L : List Asn) (o : List (List Int)) (e : Ending) (w' : World) : Prop := ∃ ao cap, e = .returned (.slice ao o.length cap) ∧ Sat W0 w' (brs ao o.length cap o :: L)
def lenV : Value → Nat
  | .slice _ n _ => n
  | _ => 0
/-- one row more behind the rows that are owned -/
theorem brs_push {W0 w : World} {L : List Asn} {ao a : Option Addr} {cap n c : Nat} {hs : List Hd} {rs : List (List Int)} {r : List Int} (hl : rs.length = n)
    (S : Sat W0 w (slc 29 1 ao (n + 1) cap (hs.map hv ++ [hv (a, r.length, c)]) :: sbs a r.length c r :: rowsB hs rs :: L)) : Sat W0 w (brs ao (n + 1) cap (rs ++ [r]) :: L) := by
  have S1 := S.sel [1, 1]
  have S2 := rowsB_push (r := r) (S.sel [1, 1] : Sat W0 w (sbs a r.length c r :: rowsB hs rs :: slc 29 1 ao (n + 1) cap (hs.map hv ++ [hv (a, r.length, c)]) :: L))
  have S3 := S2.swap
  rw [show hs.map hv ++ [hv (a, r.length, c)] = (hs ++ [(a, r.length, c)]).map hv by simp] at S3
  exact brs_in (by simp [hl]) S3

set_option maxRecDepth 100000 in
set_option maxHeartbeats 6400000 in
theorem fills_any {W0 w : World} {L : List Asn} {g : Nat} {s : LS} {N : Int} (S : Sat W0 w (PL g s :: L)) (ok : s.Ok N) (hN : N ≤ 1000000000000) :
    Calls Try.prog 29 #[.pointer (some ⟨g, 0, none⟩)] w (Outs W0 (PL g (fillP s).2 :: L) (fillP s).1) := by
  obtain ⟨ra, rc, S0⟩ := PL_open.1 S
  obtain ⟨hs, -, hl, S1⟩ := brs_out S0.swap
  obtain ⟨i0, hi, hz0, hz1, hz2⟩ := info_parts Try.infoR
  have hO := Lib.hid ok
  have hrm : s.room ≤ 16 := s.room_le
  have hre : s.room = min s.rows.length 16 - s.under := rfl
  have hul := ok.ul
  have hu16 := ok.u16
  have hlen := ok.len
  have hf1 := ok.f1
  have hfN := ok.fN
  have hc0 := ok.c0
  have hcN := ok.cN
  have hs0 := ok.s0
  have hsN := ok.sN
  have HN := Lib.hid hN
  clear S S0 ok hN
  obtain ⟨mx, hmx⟩ : ∃ mx : Int, (if (16 : Int) < ((s.rows.length : Nat) : Int) then (16 : Int) else ((s.rows.length : Nat) : Int)) = mx := ⟨_, rfl⟩
  have hm1 : mx ≤ 16 := by rw [← hmx]; split <;> omega
  have hm2 : mx ≤ (s.rows.length : Nat) := by rw [← hmx]; split <;> omega
  have hm3 : (16 : Int) ≤ mx ∨ ((s.rows.length : Nat) : Int) ≤ mx := by rw [← hmx]; split <;> omega
  go_enter Try.func29, Try.ntmps29
  go_wp2_with fail
  go_loopw [3] (fun o wr => ∃ (k u : Nat) (ao : Option Addr) (cp : Nat) (wt : Int), k ≤ s.room ∧ s.under + k ≤ u ∧ u ≤ s.under + k ∧ o = .slice ao k cp ∧ Hid (wt = if k = 0 then s.waited else 0) ∧ Sat W0 wr (blk g [.int .i64 s.id, .slice ra s.rows.length rc, .int .i64 s.first, .int .i64 (u : Int), .int .i64 s.came, .int .i64 wt, .int .i64 (s.sent + k), .int .i64 s.vain] 71 :: slc 29 1 ra s.rows.length rc (hs.map hv) :: rowsB hs s.rows :: brs ao k cp (outP s k) :: L)) (fun o _ => s.room - lenV o)
  case atStart =>
    refine ⟨0, s.under, none, 0, s.waited, by omega, by omega, by omega, rfl, rfl, ?_⟩
    have S2 := brs_none (S1.sel [2])
    simp only [Int.natCast_zero, Int.add_zero]
    exact S2.sel [1, 1, 1]
  case round =>
    clear S1
    obtain ⟨k, u, ao, cp, wt, hk, hu1, hu2, rfl, HW, S3⟩ := hrel
    have c1 := S3.cell 0 rfl 1
    have c3 := S3.cell 0 rfl 3
    simp only [List.getElem?_cons_zero, List.getElem?_cons_succ] at c1 c3
    go_upto_region 2 with fail
    go_quiet (fail)
    have S4 := S3.drewN nq
    generalize wr.drewN nq = w4 at S4 ⊢
    by_cases hlt : k < s.room
    · have hcond : decide ((u : Int) < mx) = true := decide_eq_true (by omega)
      obtain ⟨x, hx⟩ : ∃ x, s.rows[u]? = some x := ⟨s.rows[u]'(by omega), List.getElem?_eq_getElem _⟩
      obtain ⟨xa, xc, hhx, -, -, -⟩ := rowsB_at (S4.sel [2]) hx
      have hcell := (S4.sel [1]).own_rd u (hv (xa, x.length, xc)) (by rw [List.getElem?_map, hhx]; rfl)
      obtain ⟨rb, ro, rfl, ce⟩ := hcell
      have hrow := (hO.out).row x (List.mem_of_getElem? hx)
      have hid := (hO.out).id
      have HHX := Lib.hid hhx
      have HX := Lib.hid hx
      have HRX := Lib.hid (fun (w' : World) (h : Sat W0 w' (slc 29 1 (some ⟨rb, ro, none⟩) s.rows.length rc (hs.map hv) :: rowsB hs s.rows :: brs ao k cp (outP s k) :: L)) => show Rd w' xa (bv x) by
        obtain ⟨ya, yc, hy, hr, -, -⟩ := rowsB_at (h.sel [1]) hx
        rw [hhx] at hy
        cases hy
        exact hr)
      clear hx hhx
      unfold hv at ce
      dsimp only at ce
      have u0 : (0 : Int) ≤ (u : Int) := by omega
      have u1 : (u : Int) < ((s.rows.length : Nat) : Int) := by omega
      have hw1 : IntKind.i64.wrap (s.first + (u : Int)) = s.first + (u : Int) := by have := HN.out; rw [IntKind.wrap_i64]; omega
      have hw2 : IntKind.i64.wrap ((u : Int) + 1) = (u : Int) + 1 := by rw [IntKind.wrap_i64]; omega
      have HC := Lib.hid (fun (w' : World) (M : List Asn) (wt st : Int) (h : Sat W0 w' (LK g s.id (.slice (some ⟨rb, ro, none⟩) s.rows.length rc) s.first (u : Int) s.came wt st s.vain :: slc 29 1 (some ⟨rb, ro, none⟩) s.rows.length rc (hs.map hv) :: M)) =>
        (⟨(h.cell 0 rfl 2 : _), (h.cell 0 rfl 3 : _), (h.cell 0 rfl 1 : _), h.tail.own_rd.at (j := u) (u := .slice xa x.length xc) (by rw [List.getElem?_map, HHX.out]; rfl)⟩ :
          w'.cell? ⟨g, 2, none⟩ = some (.int .i64 s.first) ∧ w'.cell? ⟨g, 3, none⟩ = some (.int .i64 (u : Int)) ∧ w'.cell? ⟨g, 1, none⟩ = some (.slice (some ⟨rb, ro, none⟩) s.rows.length rc) ∧ w'.cell? ⟨rb, ro + u, none⟩ = some (.slice xa x.length xc)))
      have S5 : Sat W0 w4.drew (LK g s.id (.slice (some ⟨rb, ro, none⟩) s.rows.length rc) s.first (u : Int) s.came wt (s.sent + k) s.vain :: _) := S4.drew
      go_wp2_with fail
      clear S3 ce c1 c3
      refine wp_region_drawn (N := 25) (LN := #[false, false, false, false, false, false, false, false, false, false, false, false, false, false, false, false, false, false, false, false, false, false, false, false, false]) (by kernel_rfl) (by kernel_rfl) (by kernel_rfl) ?_
      generalize w4.drew = w5 at S5 ⊢
      refine wpAny_held (fun w' => w'.cell? ⟨g, 2, none⟩ = some (.int .i64 s.first) ∧ w'.cell? ⟨g, 3, none⟩ = some (.int .i64 (u : Int)) ∧ w'.cell? ⟨g, 1, none⟩ = some (.slice (some ⟨rb, ro, none⟩) s.rows.length rc) ∧ w'.cell? ⟨rb, ro + u, none⟩ = some (.slice xa x.length xc)) (HC.out _ _ _ _ S5) (fun hHeld => ?_)
      refine wpAnyH_tk (i := 0) (v := ?_) (LN := #[true, false, false, false, false, false, false, false, false, false, false, false, false, false, false, false, false, false, false, false, false, false, false, false, false]) rfl (by kernel_rfl) (by kernel_rfl) (by kernel_rfl) (fun _ _ _ h => h) (by kernel_rfl) (by rfl) (by assumption) ?_ ?_
      rotate_left
      · intro w hSw; (try dsimp only at hSw); first | (go_simp; done) | (go_simp; with_reducible rfl)
      try simp only [Act.put, List.getElem_toArray, List.getElem_cons_zero, List.getElem_cons_succ, List.setIfInBounds_toArray, List.set_cons_zero, List.set_cons_succ]
      refine wpAnyH_tk (i := 1) (v := ?_) (LN := #[true, true, false, false, false, false, false, false, false, false, false, false, false, false, false, false, false, false, false, false, false, false, false, false, false]) rfl (by kernel_rfl) (by kernel_rfl) (by kernel_rfl) (fun _ _ _ h => h) (by kernel_rfl) (by rfl) (by assumption) ?_ ?_
      rotate_left
      · intro w hSw; (try dsimp only at hSw); first | (go_simp; done) | (go_simp; with_reducible rfl)
      try simp only [Act.put, List.getElem_toArray, List.getElem_cons_zero, List.getElem_cons_succ, List.setIfInBounds_toArray, List.set_cons_zero, List.set_cons_succ]
      refine wpAnyH_tk (i := 2) (v := ?_) (LN := #[true, true, true, false, false, false, false, false, false, false, false, false, false, false, false, false, false, false, false, false, false, false, false, false, false]) rfl (by kernel_rfl) (by kernel_rfl) (by kernel_rfl) (fun _ _ _ h => h) (by kernel_rfl) (by rfl) (by assumption) ?_ ?_
      rotate_left
      · intro w hSw; (try dsimp only at hSw); first | (go_simp; done) | (go_simp; with_reducible rfl)
      try simp only [Act.put, List.getElem_toArray, List.getElem_cons_zero, List.getElem_cons_succ, List.setIfInBounds_toArray, List.set_cons_zero, List.set_cons_succ]
      refine wpAnyH_tk (i := 3) (v := ?_) (LN := #[true, true, true, true, false, false, false, false, false, false, false, false, false, false, false, false, false, false, false, false, false, false, false, false, false]) rfl (by kernel_rfl) (by kernel_rfl) (by kernel_rfl) (fun _ _ _ h => h) (by kernel_rfl) (by rfl) (by assumption) ?_ ?_
      rotate_left
      · intro w hSw; (try dsimp only at hSw); first | (go_simp; done) | (go_simp; with_reducible rfl)
      try simp only [Act.put, List.getElem_toArray, List.getElem_cons_zero, List.getElem_cons_succ, List.setIfInBounds_toArray, List.set_cons_zero, List.set_cons_succ]
      refine wpAnyH_tk (i := 4) (v := ?_) (LN := #[true, true, true, true, true, false, false, false, false, false, false, false, false, false, false, false, false, false, false, false, false, false, false, false, false]) rfl (by kernel_rfl) (by kernel_rfl) (by kernel_rfl) (fun _ _ _ h => h) (by kernel_rfl) (by rfl) (by assumption) ?_ ?_
      rotate_left
      · intro w hSw; (try dsimp only at hSw); first | (go_simp; done) | (go_simp; with_reducible rfl)
      try simp only [Act.put, List.getElem_toArray, List.getElem_cons_zero, List.getElem_cons_succ, List.setIfInBounds_toArray, List.set_cons_zero, List.set_cons_succ]
      refine wpAnyH_tk (i := 5) (v := ?_) (LN := #[true, true, true, true, true, true, false, false, false, false, false, false, false, false, false, false, false, false, false, false, false, false, false, false, false]) rfl (by kernel_rfl) (by kernel_rfl) (by kernel_rfl) (fun _ _ _ h => h) (by kernel_rfl) (by rfl) (by assumption) ?_ ?_
      rotate_left
      · intro w hSw; (try dsimp only at hSw); first | (go_simp; done) | (go_simp; with_reducible rfl)
      try simp only [Act.put, List.getElem_toArray, List.getElem_cons_zero, List.getElem_cons_succ, List.setIfInBounds_toArray, List.set_cons_zero, List.set_cons_succ]
      refine wpAnyH_tk (i := 6) (v := ?_) (LN := #[true, true, true, true, true, true, true, false, false, false, false, false, false, false, false, false, false, false, false, false, false, false, false, false, false]) rfl (by kernel_rfl) (by kernel_rfl) (by kernel_rfl) (fun _ _ _ h => h) (by kernel_rfl) (by rfl) (by assumption) ?_ ?_
      rotate_left
      · intro w hSw; (try dsimp only at hSw); first | (go_simp; done) | (go_simp; with_reducible rfl)
      try simp only [Act.put, List.getElem_toArray, List.getElem_cons_zero, List.getElem_cons_succ, List.setIfInBounds_toArray, List.set_cons_zero, List.set_cons_succ]
      refine wpAnyH_tk (i := 7) (v := ?_) (LN := #[true, true, true, true, true, true, true, true, false, false, false, false, false, false, false, false, false, false, false, false, false, false, false, false, false]) rfl (by kernel_rfl) (by kernel_rfl) (by kernel_rfl) (fun _ _ _ h => h) (by kernel_rfl) (by rfl) (by assumption) ?_ ?_
      rotate_left
      · intro w hSw; (try dsimp only at hSw); first | (go_simp; done) | (go_simp; with_reducible rfl)
      try simp only [Act.put, List.getElem_toArray, List.getElem_cons_zero, List.getElem_cons_succ, List.setIfInBounds_toArray, List.set_cons_zero, List.set_cons_succ]
      refine wpAnyH_tk (i := 8) (v := ?_) (LN := #[true, true, true, true, true, true, true, true, true, false, false, false, false, false, false, false, false, false, false, false, false, false, false, false, false]) rfl (by kernel_rfl) (by kernel_rfl) (by kernel_rfl) (fun _ _ _ h => h) (by kernel_rfl) (by rfl) (by assumption) ?_ ?_
      rotate_left
      · intro w hSw; (try dsimp only at hSw); first | (go_simp; done) | (go_simp; with_reducible rfl)
      try simp only [Act.put, List.getElem_toArray, List.getElem_cons_zero, List.getElem_cons_succ, List.setIfInBounds_toArray, List.set_cons_zero, List.set_cons_succ]
      refine wpAnyH_tk (i := 9) (v := ?_) (LN := #[true, true, true, true, true, true, true, true, true, true, false, false, false, false, false, false, false, false, false, false, false, false, false, false, false]) rfl (by kernel_rfl) (by kernel_rfl) (by kernel_rfl) (fun _ _ _ h => h) (by kernel_rfl) (by rfl) (by assumption) ?_ ?_
      rotate_left
      · intro w hSw; (try dsimp only at hSw); first | (go_simp; done) | (go_simp; with_reducible rfl)
      try simp only [Act.put, List.getElem_toArray, List.getElem_cons_zero, List.getElem_cons_succ, List.setIfInBounds_toArray, List.set_cons_zero, List.set_cons_succ]
      refine wpAnyH_tk (i := 10) (v := ?_) (LN := #[true, true, true, true, true, true, true, true, true, true, true, false, false, false, false, false, false, false, false, false, false, false, false, false, false]) rfl (by kernel_rfl) (by kernel_rfl) (by kernel_rfl) (fun _ _ _ h => h) (by kernel_rfl) (by rfl) (by assumption) ?_ ?_
      rotate_left
      · intro w hSw; (try dsimp only at hSw); first | (go_simp; done) | (go_simp; with_reducible rfl)
      try simp only [Act.put, List.getElem_toArray, List.getElem_cons_zero, List.getElem_cons_succ, List.setIfInBounds_toArray, List.set_cons_zero, List.set_cons_succ]
      refine wpAnyH_tk (i := 11) (v := ?_) (LN := #[true, true, true, true, true, true, true, true, true, true, true, true, false, false, false, false, false, false, false, false, false, false, false, false, false]) rfl (by kernel_rfl) (by kernel_rfl) (by kernel_rfl) (fun _ _ _ h => h) (by kernel_rfl) (by rfl) (by assumption) ?_ ?_
      rotate_left
      · intro w hSw; (try dsimp only at hSw); first | (go_simp; done) | (go_simp; with_reducible rfl)
      try simp only [Act.put, List.getElem_toArray, List.getElem_cons_zero, List.getElem_cons_succ, List.setIfInBounds_toArray, List.set_cons_zero, List.set_cons_succ]
      refine wpAnyH_tk (i := 12) (v := ?_) (LN := #[true, true, true, true, true, true, true, true, true, true, true, true, true, false, false, false, false, false, false, false, false, false, false, false, false]) rfl (by kernel_rfl) (by kernel_rfl) (by kernel_rfl) (fun _ _ _ h => h) (by kernel_rfl) (by rfl) (by assumption) ?_ ?_
      rotate_left
      · intro w hSw; (try dsimp only at hSw); first | (go_simp; done) | (go_simp; with_reducible rfl)
      try simp only [Act.put, List.getElem_toArray, List.getElem_cons_zero, List.getElem_cons_succ, List.setIfInBounds_toArray, List.set_cons_zero, List.set_cons_succ]
      refine wpAnyH_tk (i := 13) (v := ?_) (LN := #[true, true, true, true, true, true, true, true, true, true, true, true, true, true, false, false, false, false, false, false, false, false, false, false, false]) rfl (by kernel_rfl) (by kernel_rfl) (by kernel_rfl) (fun _ _ _ h => h) (by kernel_rfl) (by rfl) (by assumption) ?_ ?_
      rotate_left
      · intro w hSw; (try dsimp only at hSw); first | (go_simp; done) | (go_simp; with_reducible rfl)
      try simp only [Act.put, List.getElem_toArray, List.getElem_cons_zero, List.getElem_cons_succ, List.setIfInBounds_toArray, List.set_cons_zero, List.set_cons_succ]
      refine wpAnyH_tk (i := 14) (v := ?_) (LN := #[true, true, true, true, true, true, true, true, true, true, true, true, true, true, true, false, false, false, false, false, false, false, false, false, false]) rfl (by kernel_rfl) (by kernel_rfl) (by kernel_rfl) (fun _ _ _ h => h) (by kernel_rfl) (by rfl) (by assumption) ?_ ?_
      rotate_left
      · intro w hSw; (try dsimp only at hSw); first | (go_simp; done) | (go_simp; with_reducible rfl)
      try simp only [Act.put, List.getElem_toArray, List.getElem_cons_zero, List.getElem_cons_succ, List.setIfInBounds_toArray, List.set_cons_zero, List.set_cons_succ]
      refine wpAnyH_tk (i := 15) (v := ?_) (LN := #[true, true, true, true, true, true, true, true, true, true, true, true, true, true, true, true, false, false, false, false, false, false, false, false, false]) rfl (by kernel_rfl) (by kernel_rfl) (by kernel_rfl) (fun _ _ _ h => h) (by kernel_rfl) (by rfl) (by assumption) ?_ ?_
      rotate_left
      · intro w hSw; (try dsimp only at hSw); first | (go_simp; done) | (go_simp; with_reducible rfl)
      try simp only [Act.put, List.getElem_toArray, List.getElem_cons_zero, List.getElem_cons_succ, List.setIfInBounds_toArray, List.set_cons_zero, List.set_cons_succ]
      refine wpAnyH_tk (i := 16) (v := ?_) (LN := #[true, true, true, true, true, true, true, true, true, true, true, true, true, true, true, true, true, false, false, false, false, false, false, false, false]) rfl (by kernel_rfl) (by kernel_rfl) (by kernel_rfl) (fun _ _ _ h => h) (by kernel_rfl) (by rfl) (by assumption) ?_ ?_
      rotate_left
      · intro w hSw; (try dsimp only at hSw); first | (go_simp; done) | (go_simp; with_reducible rfl)
      try simp only [Act.put, List.getElem_toArray, List.getElem_cons_zero, List.getElem_cons_succ, List.setIfInBounds_toArray, List.set_cons_zero, List.set_cons_succ]
      refine wpAnyH_tk (i := 17) (v := ?_) (LN := #[true, true, true, true, true, true, true, true, true, true, true, true, true, true, true, true, true, true, false, false, false, false, false, false, false]) rfl (by kernel_rfl) (by kernel_rfl) (by kernel_rfl) (fun _ _ _ h => h) (by kernel_rfl) (by rfl) (by assumption) ?_ ?_
      rotate_left
      · intro w hSw; (try dsimp only at hSw); first | (go_simp; done) | (go_simp; with_reducible rfl)
      try simp only [Act.put, List.getElem_toArray, List.getElem_cons_zero, List.getElem_cons_succ, List.setIfInBounds_toArray, List.set_cons_zero, List.set_cons_succ]
      refine wpAnyH_tk (i := 18) (v := ?_) (LN := #[true, true, true, true, true, true, true, true, true, true, true, true, true, true, true, true, true, true, true, false, false, false, false, false, false]) rfl (by kernel_rfl) (by kernel_rfl) (by kernel_rfl) (fun _ _ _ h => h) (by kernel_rfl) (by rfl) (by assumption) ?_ ?_
      rotate_left
      · intro w hSw; (try dsimp only at hSw); first | (go_simp; done) | (go_simp; with_reducible rfl)
      try simp only [Act.put, List.getElem_toArray, List.getElem_cons_zero, List.getElem_cons_succ, List.setIfInBounds_toArray, List.set_cons_zero, List.set_cons_succ]
      refine wpAnyH_tk (i := 19) (v := ?_) (LN := #[true, true, true, true, true, true, true, true, true, true, true, true, true, true, true, true, true, true, true, true, false, false, false, false, false]) rfl (by kernel_rfl) (by kernel_rfl) (by kernel_rfl) (fun _ _ _ h => h) (by kernel_rfl) (by rfl) (by assumption) ?_ ?_
      rotate_left
      · intro w hSw; (try dsimp only at hSw); first | (go_simp; done) | (go_simp; with_reducible rfl)
      try simp only [Act.put, List.getElem_toArray, List.getElem_cons_zero, List.getElem_cons_succ, List.setIfInBounds_toArray, List.set_cons_zero, List.set_cons_succ]
      refine wpAnyH_tk (i := 20) (v := ?_) (LN := #[true, true, true, true, true, true, true, true, true, true, true, true, true, true, true, true, true, true, true, true, true, false, false, false, false]) rfl (by kernel_rfl) (by kernel_rfl) (by kernel_rfl) (fun _ _ _ h => h) (by kernel_rfl) (by rfl) (by assumption) ?_ ?_
      rotate_left
      · intro w hSw; (try dsimp only at hSw); first | (go_simp; done) | (go_simp; with_reducible rfl)
      try simp only [Act.put, List.getElem_toArray, List.getElem_cons_zero, List.getElem_cons_succ, List.setIfInBounds_toArray, List.set_cons_zero, List.set_cons_succ]
      refine wpAnyH_one (i := 21) (LN := #[true, true, true, true, true, true, true, true, true, true, true, true, true, true, true, true, true, true, true, true, true, true, false, false, false]) (by kernel_rfl) rfl (by kernel_rfl) ?_
      intro K hK
      go_simp
      go_at_call 31
      refine (packet_any S5 (s.first + (u : Int)) HRX.out rfl hrow.1 hid (by have := HN.out; unfold I64; omega) (by have := HN.out; unfold I64; omega) (by have := HN.out; omega) (by omega) (wt := 0) (if_pos (by omega))).mono ?_
      unfold Packed
      rintro e w6 ⟨pa, pc, rfl, S6⟩
      go_wp2_with fail
      refine hK.out _ _ (HC.out _ _ _ _ S6.tail) ?_
      clear hK K hHeld
      intro hHeld
      try simp only [Act.put, List.getElem_toArray, List.getElem_cons_zero, List.getElem_cons_succ, List.setIfInBounds_toArray, List.set_cons_zero, List.set_cons_succ]
      refine wpAnyH_one (i := 22) (LN := #[true, true, true, true, true, true, true, true, true, true, true, true, true, true, true, true, true, true, true, true, true, true, true, false, false]) (by kernel_rfl) rfl (by kernel_rfl) ?_
      intro K hK
      go_simp
      have S7 := S6.alloc [.slice pa (packP s.id (s.first + (u : Int)) s.came x).length pc] 29
      refine hK.out _ _ (HC.out _ _ _ _ S7.tail.tail) ?_
      clear hK K hHeld
      intro hHeld
      try simp only [Act.put, List.getElem_toArray, List.getElem_cons_zero, List.getElem_cons_succ, List.setIfInBounds_toArray, List.set_cons_zero, List.set_cons_succ]
      obtain ⟨ho, -, hol, S8⟩ := brs_out (S7.sel [5])
      refine wpAnyH_one (i := 23) (LN := #[true, true, true, true, true, true, true, true, true, true, true, true, true, true, true, true, true, true, true, true, true, true, true, true, false]) (by kernel_rfl) rfl (by kernel_rfl) ?_
      intro K hK
      refine step_append_sat rfl _ _ _ rfl 29 i0 _ 1 24 Try.underlying25 hi hz0 hz1 hz2 rfl (by decide) S8 rfl rfl (Rd.lit (S7.block 0 rfl).1) (by rfl) (by simp [Value.oneCell']) (by unfold maxLen; omega) (by omega) ?_
      intro ao9 cp9 w9 S9
      refine hK.out _ _ (HC.out _ _ _ _ (S9.sel [4, 4])) ?_
      clear hK K hHeld
      intro hHeld
      try simp only [Act.put, List.getElem_toArray, List.getElem_cons_zero, List.getElem_cons_succ, List.setIfInBounds_toArray, List.set_cons_zero, List.set_cons_succ]
      refine wpAnyH_tk (i := 24) (v := ?_) (LN := #[true, true, true, true, true, true, true, true, true, true, true, true, true, true, true, true, true, true, true, true, true, true, true, true, true]) rfl (by kernel_rfl) (by kernel_rfl) (by kernel_rfl) (fun _ _ _ h => h) (by kernel_rfl) (by rfl) (by assumption) ?_ ?_
      rotate_left
      · intro w hSw; (try dsimp only at hSw); first | (go_simp; done) | (go_simp; with_reducible rfl)
      try simp only [Act.put, List.getElem_toArray, List.getElem_cons_zero, List.getElem_cons_succ, List.setIfInBounds_toArray, List.set_cons_zero, List.set_cons_succ]
      refine ⟨by kernel_rfl, ?_⟩
      try simp only [Act.put, List.getElem_toArray, List.getElem_cons_zero, List.getElem_cons_succ, List.setIfInBounds_toArray, List.set_cons_zero, List.set_cons_succ]
      clear hHeld S6 S7 S8
      have n3 := S9.cell 4 rfl 3
      have m3 := S9.frozen 4 rfl 3
      simp only [lkc, List.getElem?_cons_zero, List.getElem?_cons_succ] at n3
      have S10 := S9.setCell (k := 3) (v := .int .i64 ((u : Int) + 1)) 4 rfl
      go_wp2_with fail
      have eu : u = s.under + k := by omega
      have hout : outP s (k + 1) = outP s k ++ [packP s.id (s.first + (u : Int)) s.came x] := by
        rw [outP_succ, ← eu, HX.out, eu]
        simp only [Int.natCast_add, Int.add_assoc]
        rfl
      refine ⟨⟨k + 1, u + 1, ao9, cp9, 0, by omega, by omega, by omega, by go_num, by rw [if_neg (by omega)]; exact rfl, ?_⟩, by simp [lenV]; omega⟩
      have T1 := brs_push (outP_length s k) (S10.sel [0, 2, 0])
      rw [← hout] at T1
      have T2 := ((T1.sel [1]).tail.sel [1, 1, 1])
      have e1 : s.sent + ((k + 1 : Nat) : Int) = s.sent + (k : Int) + 1 := by omega
      rw [e1]
      exact T2
    · have hcond : decide ((u : Int) < mx) = false := decide_eq_false (by omega)
      go_wp2_with fail
      go_ret
      obtain rfl : k = s.room := by omega
      refine ⟨ao, cp, by rw [show (fillP s).1 = outP s s.room from rfl, outP_length]; rfl, ?_⟩
      rw [show (fillP s).1 = outP s s.room from rfl, outP_length]
      have eu : u = s.under + s.room := by omega
      subst eu
      have T1 := S4.sel [3]
      have T2 := (brs_in rfl (T1.sel [2, 2]) : Sat W0 _ (brs ra s.rows.length rc s.rows :: brs ao s.room cp (outP s s.room) :: _))
      refine Sat.swap (PL_open.2 ⟨ra, rc, ?_⟩)
      have T3 := T2.sel [2, 0]
      have ew : wt = (fillP s).2.waited := HW
      rw [ew] at T3
      exact T3
end Go.Proofs.Ytdgalljalcediaa
