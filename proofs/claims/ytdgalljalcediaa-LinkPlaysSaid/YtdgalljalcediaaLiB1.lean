/-
  link: two ends and packets under way, in memory; what goes out of an end is under way.
-/
import Derived.Test.YtdgalljalcediaaLiD2
import Derived.Test.YtdgalljalcediaaLiR
import Derived.Test.YtdgalljalcediaaSegU
namespace Go.Proofs.Ytdgalljalcediaa
open Go.RowKit Go.Sep Go.Oct
set_option linter.unusedSimpArgs false

theorem Try.infoK : (Try.prog.info? 58).map (fun i => (i.zero, i.size, i.bytes)) = some (some (.agg #[.int .i64 0, .slice none 0 0]), 2, 32) := by kernel_rfl
def BKc (p0 p1 q0 q1 : Nat) (v : Value) : List Value := [.pointer (some ⟨p0, 0, none⟩), .pointer (some ⟨p1, 0, none⟩), .pointer (some ⟨q0, 0, none⟩), .pointer (some ⟨q1, 0, none⟩), v]
def BK (x p0 p1 q0 q1 : Nat) (v : Value) : Asn := blk x [.pointer (some ⟨p0, 0, none⟩), .pointer (some ⟨p1, 0, none⟩), .pointer (some ⟨q0, 0, none⟩), .pointer (some ⟨q1, 0, none⟩), v] 55
def wayV : List (Int × List Int) → List Hd → List Value
  | p :: ps, h :: hs => .int .i64 p.1 :: hv h :: wayV ps hs
  | _, _ => []
theorem wayV_length : ∀ {ps : List (Int × List Int)} {hs : List Hd}, hs.length = ps.length → (wayV ps hs).length = ps.length * 2
  | [], [], _ => rfl
  | p :: ps, h :: hs, e => by have := @wayV_length ps hs (by simpa using e); simp only [wayV, List.length_cons, this]; omega
  | [], _ :: _, e => by simp at e
  | _ :: _, [], e => by simp at e
theorem wayV_one : ∀ (ps : List (Int × List Int)) (hs : List Hd), ∀ u ∈ wayV ps hs, u.oneCell' = true
  | [], _, u, h => by simp [wayV] at h
  | _ :: _, [], u, h => by simp [wayV] at h
  | p :: ps, k :: hs, u, h => by
    simp only [wayV, List.mem_cons] at h
    rcases h with rfl | rfl | h
    · rfl
    · rfl
    · exact wayV_one ps hs u h
theorem wayV_append : ∀ {ps qs : List (Int × List Int)} {hs ks : List Hd}, hs.length = ps.length → wayV (ps ++ qs) (hs ++ ks) = wayV ps hs ++ wayV qs ks
  | [], _, [], _, _ => rfl
  | p :: ps, qs, h :: hs, ks, e => by simp only [List.cons_append, wayV, wayV_append (ps := ps) (hs := hs) (by simpa using e)]
  | [], _, _ :: _, _, e => by simp at e
  | _ :: _, _, [], _, e => by simp at e
theorem wayV_at : ∀ {ps : List (Int × List Int)} {hs : List Hd} {k : Nat} {p : Int × List Int} {h : Hd}, ps[k]? = some p → hs[k]? = some h → (wayV ps hs)[k * 2]? = some (.int .i64 p.1) ∧ (wayV ps hs)[k * 2 + 1]? = some (hv h)
  | p :: ps, h :: hs, 0, p', h', e1, e2 => by cases e1; cases e2; exact ⟨rfl, rfl⟩
  | p :: ps, h :: hs, k + 1, p', h', e1, e2 => by
    have := @wayV_at ps hs k p' h' (by simpa using e1) (by simpa using e2)
    rw [show (k + 1) * 2 = k * 2 + 2 by omega]
    exact this
  | [], _, _, _, _, e1, _ => by simp at e1
  | _ :: _, [], _, _, _, _, e2 => by simp at e2
theorem wayV_take : ∀ (ps : List (Int × List Int)) (hs : List Hd) (k : Nat), (wayV ps hs).take (k * 2) = wayV (ps.take k) (hs.take k)
  | [], hs, k => by simp [wayV]
  | _ :: _, [], k => by simp [wayV]
  | p :: ps, h :: hs, 0 => by simp [wayV]
  | p :: ps, h :: hs, k + 1 => by
    rw [show (k + 1) * 2 = k * 2 + 2 by omega]
    simp only [wayV, List.take_succ_cons, wayV_take ps hs k]
theorem wayV_drop : ∀ (ps : List (Int × List Int)) (hs : List Hd) (k : Nat), (wayV ps hs).drop (k * 2) = wayV (ps.drop k) (hs.drop k)
  | [], hs, k => by simp [wayV]
  | _ :: _, [], k => by simp [wayV]
  | p :: ps, h :: hs, 0 => by simp [wayV]
  | p :: ps, h :: hs, k + 1 => by
    rw [show (k + 1) * 2 = k * 2 + 2 by omega]
    simp only [wayV, List.drop_succ_cons, wayV_drop ps hs k]
def WAY (ao : Option Addr) (n cap : Nat) (ps : List (Int × List Int)) : Asn := exA fun hs : List Hd => pureA (ps.length = n) (star (slc 58 2 ao n cap (wayV ps hs)) (rowsB hs (ps.map (·.2))))
theorem WAY_out {W0 w : World} {L : List Asn} {ao : Option Addr} {n cap : Nat} {ps : List (Int × List Int)} (S : Sat W0 w (WAY ao n cap ps :: L)) : ∃ hs : List Hd, ps.length = n ∧ hs.length = n ∧ Sat W0 w (slc 58 2 ao n cap (wayV ps hs) :: rowsB hs (ps.map (·.2)) :: L) := by
  obtain ⟨hs, S1⟩ := Sat.ex.1 S
  obtain ⟨h1, S2⟩ := Sat.pure.1 S1
  have S3 := Sat.star.1 S2
  exact ⟨hs, h1, by rw [rowsB_len S3.tail, List.length_map, h1], S3⟩
theorem WAY_in {W0 w : World} {L : List Asn} {ao : Option Addr} {n cap : Nat} {hs : List Hd} {ps : List (Int × List Int)} (h : ps.length = n) (S : Sat W0 w (slc 58 2 ao n cap (wayV ps hs) :: rowsB hs (ps.map (·.2)) :: L)) : Sat W0 w (WAY ao n cap ps :: L) :=
  Sat.ex.2 ⟨hs, Sat.pure.2 ⟨h, Sat.star.2 S⟩⟩
theorem WAY_none {W0 w : World} {L : List Asn} (S : Sat W0 w L) : Sat W0 w (WAY none 0 0 [] :: L) :=
  WAY_in (hs := []) rfl (Sat.own_none.2 ⟨rfl, rfl, rfl, (show Sat W0 w (emp :: L) from S.emp)⟩)
/-- the ends' pointers and the packets under way -/
def BW2 (x p0 p1 q0 q1 : Nat) (ps : List (Int × List Int)) : Asn := exA fun (r : Option Addr × Nat) => star (BK x p0 p1 q0 q1 (.slice r.1 ps.length r.2)) (WAY r.1 ps.length r.2 ps)
theorem BW2_open {W0 w : World} {L : List Asn} {x p0 p1 q0 q1 : Nat} {ps : List (Int × List Int)} : Sat W0 w (BW2 x p0 p1 q0 q1 ps :: L) ↔ ∃ ao cap, Sat W0 w (BK x p0 p1 q0 q1 (.slice ao ps.length cap) :: WAY ao ps.length cap ps :: L) := by
  unfold BW2
  rw [Sat.ex]
  constructor
  · rintro ⟨⟨ao, cap⟩, h⟩; exact ⟨ao, cap, Sat.star.1 h⟩
  · rintro ⟨ao, cap, h⟩; exact ⟨⟨ao, cap⟩, Sat.star.2 h⟩

set_option maxRecDepth 100000 in
set_option maxHeartbeats 6400000 in
theorem out_any16 {W0 w : World} {L : List Asn} {x p0 p1 q0 q1 : Nat} {ps : List (Int × List Int)} {e : Int} (he : 0 ≤ e ∧ e ≤ 1) {lo : Option Addr} {n c : Nat} {rs : List (List Int)} (S : Sat W0 w (BW2 x p0 p1 q0 q1 ps :: brs lo n c rs :: L)) (hsm : ∀ r ∈ rs, r.length ≤ 1000000) (hn9 : n ≤ 100000) (hps : ps.length ≤ 100000000) :
    Calls Try.prog 23 #[.pointer (some ⟨x, 0, none⟩), .int .i64 e, .slice lo n c] w fun e' w' => e' = .returned (.tuple #[]) ∧ Sat W0 w' (BW2 x p0 p1 q0 q1 (ps ++ rs.map fun r => (1 - e, r)) :: brs lo n c rs :: L) := by
  obtain ⟨hs, hn, hl, S1⟩ := brs_out S.swap
  have S2 : Sat W0 w (BW2 x p0 p1 q0 q1 (ps ++ (rs.take 0).map fun r => (1 - e, r)) :: slc 29 1 lo n c (hs.map hv) :: rowsB hs rs :: L) := by
    rw [List.take_zero, List.map_nil, List.append_nil]
    exact S1.sel [2]
  obtain ⟨i0, hi, hz0, hz1, hz2⟩ := info_parts Try.infoK
  obtain ⟨j0, hj, jz0, jz1, jz2⟩ := info_parts Try.infoB
  have hwe : IntKind.i64.wrap (1 - e) = 1 - e := by rw [IntKind.wrap_i64]; omega
  have HN := Lib.hid hn
  have HSM := Lib.hid hsm
  clear hn hsm S S1
  go_enter Try.func23, Try.ntmps23
  go_wp2_with fail
  go_loopw [6] (fun i wr => ∃ k : Nat, k ≤ n ∧ i = .int .i64 k ∧ Sat W0 wr (BW2 x p0 p1 q0 q1 (ps ++ (rs.take k).map fun r => (1 - e, r)) :: slc 29 1 lo n c (hs.map hv) :: rowsB hs rs :: L)) (fun i _ => n - (intOf i).toNat)
  case atStart => exact ⟨0, by omega, rfl, S2⟩
  case round =>
    clear S2
    obtain ⟨k, hk, rfl, S3⟩ := hrel
    have k0 : (0 : Int) ≤ (k : Int) := by omega
    by_cases hlt : k < n
    · have hd : decide ((k : Int) < (n : Int)) = true := decide_eq_true (by omega)
      have k1 : (k : Int) < (n : Int) := by omega
      have hw : IntKind.i64.wrap ((k : Int) + 1) = (k : Int) + 1 := by rw [IntKind.wrap_i64]; omega
      obtain ⟨r, hr⟩ : ∃ r, rs[k]? = some r := ⟨rs[k]'(by rw [HN.out]; exact hlt), List.getElem?_eq_getElem _⟩
      obtain ⟨ra, rc, hh, -, -, -⟩ := rowsB_at (S3.sel [2]) hr
      obtain ⟨lb, lf, rfl, -⟩ := (S3.sel [1]).own_rd k (hv (ra, r.length, rc)) (by rw [List.getElem?_map, hh]; rfl)
      have hrl := HSM.out r (List.mem_of_getElem? hr)
      have HC := Lib.hid (fun (w' : World) (M : List Asn) (h : Sat W0 w' (slc 29 1 (some ⟨lb, lf, none⟩) n c (hs.map hv) :: M)) => (h.own_rd.at (j := k) (u := .slice ra r.length rc) (by rw [List.getElem?_map, hh]; rfl) : w'.cell? ⟨lb, lf + k, none⟩ = some (.slice ra r.length rc)))
      have HRR := Lib.hid (fun (w' : World) (M : List Asn) (h : Sat W0 w' (rowsB hs rs :: M)) => show Rd w' ra (bv r) by
        obtain ⟨ya, yc, hy, hrr, -, -⟩ := rowsB_at h hr
        rw [hh] at hy
        cases hy
        exact hrr)
      have HTK : Hid ((rs.take (k + 1)).map (fun r => (1 - e, r)) = (rs.take k).map (fun r => (1 - e, r)) ++ [(1 - e, r)]) := by show _ = _; rw [List.take_add_one, hr, List.map_append]; rfl
      obtain ⟨qs, hqs⟩ : ∃ qs, ps ++ (rs.take k).map (fun r => (1 - e, r)) = qs := ⟨_, rfl⟩
      have hql : qs.length ≤ 100100000 := by
        rw [← hqs, List.length_append, List.length_map, List.length_take]; omega
      rw [hqs] at S3
      have HQS := Lib.hid hqs
      clear hr hh hqs
      obtain ⟨wa, wc, S4⟩ := BW2_open.1 S3.drew
      go_wp2_with fail
      clear S3
      refine wp_region_drawn (N := 19) (LN := #[false, false, false, false, false, false, false, false, false, false, false, false, false, false, false, false, false, false, false]) (by kernel_rfl) (by kernel_rfl) (by kernel_rfl) ?_
      generalize wr.drew = w4 at S4 ⊢
      refine wpAny_until 18 (fun w' => w'.cell? ⟨x, 4, none⟩ = some (.slice wa qs.length wc) ∧ w'.cell? ⟨lb, lf + k, none⟩ = some (.slice ra r.length rc)) ⟨(S4.cell 0 rfl 4 : _), HC.out _ _ (S4.sel [2])⟩ (fun hHeld => ?_)
      refine wpAnyU_tk (by kernel_rfl) (i := 0) (v := ?_) (LN := #[true, false, false, false, false, false, false, false, false, false, false, false, false, false, false, false, false, false, false]) rfl (by kernel_rfl) (by kernel_rfl) (by kernel_rfl) (fun _ _ _ h => h) (by kernel_rfl) (by rfl) (by assumption) ?_ ?_
      rotate_left
      · intro w hSw; (try dsimp only at hSw); first | (go_simp; done) | (go_simp; with_reducible rfl)
      try simp only [Act.put, List.getElem_toArray, List.getElem_cons_zero, List.getElem_cons_succ, List.setIfInBounds_toArray, List.set_cons_zero, List.set_cons_succ]
      refine wpAnyU_tk (by kernel_rfl) (i := 1) (v := ?_) (LN := #[true, true, false, false, false, false, false, false, false, false, false, false, false, false, false, false, false, false, false]) rfl (by kernel_rfl) (by kernel_rfl) (by kernel_rfl) (fun _ _ _ h => h) (by kernel_rfl) (by rfl) (by assumption) ?_ ?_
      rotate_left
      · intro w hSw; (try dsimp only at hSw); first | (go_simp; done) | (go_simp; with_reducible rfl)
      try simp only [Act.put, List.getElem_toArray, List.getElem_cons_zero, List.getElem_cons_succ, List.setIfInBounds_toArray, List.set_cons_zero, List.set_cons_succ]
      refine wpAnyU_tk (by kernel_rfl) (i := 2) (v := ?_) (LN := #[true, true, true, false, false, false, false, false, false, false, false, false, false, false, false, false, false, false, false]) rfl (by kernel_rfl) (by kernel_rfl) (by kernel_rfl) (fun _ _ _ h => h) (by kernel_rfl) (by rfl) (by assumption) ?_ ?_
      rotate_left
      · intro w hSw; (try dsimp only at hSw); first | (go_simp; done) | (go_simp; with_reducible rfl)
      try simp only [Act.put, List.getElem_toArray, List.getElem_cons_zero, List.getElem_cons_succ, List.setIfInBounds_toArray, List.set_cons_zero, List.set_cons_succ]
      refine wpAnyU_tk (by kernel_rfl) (i := 3) (v := ?_) (LN := #[true, true, true, true, false, false, false, false, false, false, false, false, false, false, false, false, false, false, false]) rfl (by kernel_rfl) (by kernel_rfl) (by kernel_rfl) (fun _ _ _ h => h) (by kernel_rfl) (by rfl) (by assumption) ?_ ?_
      rotate_left
      · intro w hSw; (try dsimp only at hSw); first | (go_simp; done) | (go_simp; with_reducible rfl)
      try simp only [Act.put, List.getElem_toArray, List.getElem_cons_zero, List.getElem_cons_succ, List.setIfInBounds_toArray, List.set_cons_zero, List.set_cons_succ]
      refine wpAnyU_tk (by kernel_rfl) (i := 4) (v := ?_) (LN := #[true, true, true, true, true, false, false, false, false, false, false, false, false, false, false, false, false, false, false]) rfl (by kernel_rfl) (by kernel_rfl) (by kernel_rfl) (fun _ _ _ h => h) (by kernel_rfl) (by rfl) (by assumption) ?_ ?_
      rotate_left
      · intro w hSw; (try dsimp only at hSw); first | (go_simp; done) | (go_simp; with_reducible rfl)
      try simp only [Act.put, List.getElem_toArray, List.getElem_cons_zero, List.getElem_cons_succ, List.setIfInBounds_toArray, List.set_cons_zero, List.set_cons_succ]
      refine wpAnyU_tk (by kernel_rfl) (i := 5) (v := ?_) (LN := #[true, true, true, true, true, true, false, false, false, false, false, false, false, false, false, false, false, false, false]) rfl (by kernel_rfl) (by kernel_rfl) (by kernel_rfl) (fun _ _ _ h => h) (by kernel_rfl) (by rfl) (by assumption) ?_ ?_
      rotate_left
      · intro w hSw; (try dsimp only at hSw); first | (go_simp; done) | (go_simp; with_reducible rfl)
      try simp only [Act.put, List.getElem_toArray, List.getElem_cons_zero, List.getElem_cons_succ, List.setIfInBounds_toArray, List.set_cons_zero, List.set_cons_succ]
      refine wpAnyU_tk (by kernel_rfl) (i := 6) (v := ?_) (LN := #[true, true, true, true, true, true, true, false, false, false, false, false, false, false, false, false, false, false, false]) rfl (by kernel_rfl) (by kernel_rfl) (by kernel_rfl) (fun _ _ _ h => h) (by kernel_rfl) (by rfl) (by assumption) ?_ ?_
      rotate_left
      · intro w hSw; (try dsimp only at hSw); first | (go_simp; done) | (go_simp; with_reducible rfl)
      try simp only [Act.put, List.getElem_toArray, List.getElem_cons_zero, List.getElem_cons_succ, List.setIfInBounds_toArray, List.set_cons_zero, List.set_cons_succ]
      refine wpAnyU_tk (by kernel_rfl) (i := 8) (v := ?_) (LN := #[true, true, true, true, true, true, true, false, true, false, false, false, false, false, false, false, false, false, false]) rfl (by kernel_rfl) (by kernel_rfl) (by kernel_rfl) (fun _ _ _ h => h) (by kernel_rfl) (by rfl) (by assumption) ?_ ?_
      rotate_left
      · intro w hSw; (try dsimp only at hSw); first | (go_simp; done) | (go_simp; with_reducible rfl)
      try simp only [Act.put, List.getElem_toArray, List.getElem_cons_zero, List.getElem_cons_succ, List.setIfInBounds_toArray, List.set_cons_zero, List.set_cons_succ]
      refine wpAnyU_tk (by kernel_rfl) (i := 9) (v := ?_) (LN := #[true, true, true, true, true, true, true, false, true, true, false, false, false, false, false, false, false, false, false]) rfl (by kernel_rfl) (by kernel_rfl) (by kernel_rfl) (fun _ _ _ h => h) (by kernel_rfl) (by rfl) (by assumption) ?_ ?_
      rotate_left
      · intro w hSw; (try dsimp only at hSw); first | (go_simp; done) | (go_simp; with_reducible rfl)
      try simp only [Act.put, List.getElem_toArray, List.getElem_cons_zero, List.getElem_cons_succ, List.setIfInBounds_toArray, List.set_cons_zero, List.set_cons_succ]
      refine wpAnyU_tk (by kernel_rfl) (i := 10) (v := ?_) (LN := #[true, true, true, true, true, true, true, false, true, true, true, false, false, false, false, false, false, false, false]) rfl (by kernel_rfl) (by kernel_rfl) (by kernel_rfl) (fun _ _ _ h => h) (by kernel_rfl) (by rfl) (by assumption) ?_ ?_
      rotate_left
      · intro w hSw; (try dsimp only at hSw); first | (go_simp; done) | (go_simp; with_reducible rfl)
      try simp only [Act.put, List.getElem_toArray, List.getElem_cons_zero, List.getElem_cons_succ, List.setIfInBounds_toArray, List.set_cons_zero, List.set_cons_succ]
      refine wpAnyU_tk (by kernel_rfl) (i := 11) (v := ?_) (LN := #[true, true, true, true, true, true, true, false, true, true, true, true, false, false, false, false, false, false, false]) rfl (by kernel_rfl) (by kernel_rfl) (by kernel_rfl) (fun _ _ _ h => h) (by kernel_rfl) (by rfl) (by assumption) ?_ ?_
      rotate_left
      · intro w hSw; (try dsimp only at hSw); first | (go_simp; done) | (go_simp; with_reducible rfl)
      try simp only [Act.put, List.getElem_toArray, List.getElem_cons_zero, List.getElem_cons_succ, List.setIfInBounds_toArray, List.set_cons_zero, List.set_cons_succ]
      refine wpAnyU_one (by decide) (i := 7) (LN := #[true, true, true, true, true, true, true, true, true, true, true, true, false, false, false, false, false, false, false]) (by kernel_rfl) rfl (by kernel_rfl) ?_
      intro K hK
      go_simp
      have S5 := Sat.own_new (n := 0) (cap := 0) (size := 1) (xs := []) (post := []) (S4.alloc [] 5) rfl (Nat.le_refl _) (by unfold maxLen; omega) (by simp)
      refine hK.out _ _ ⟨(S5.cell 1 rfl 4 : _), HC.out _ _ (S5.sel [3])⟩ ?_
      clear hK K hHeld
      intro hHeld
      try simp only [Act.put, List.getElem_toArray, List.getElem_cons_zero, List.getElem_cons_succ, List.setIfInBounds_toArray, List.set_cons_zero, List.set_cons_succ]
      refine wpAnyU_one (by decide) (i := 12) (LN := #[true, true, true, true, true, true, true, true, true, true, true, true, true, false, false, false, false, false, false]) (by kernel_rfl) rfl (by kernel_rfl) ?_
      intro K hK
      refine step_append_sat rfl _ _ _ rfl 5 j0 (.int .u8 0) 1 1 Try.underlying29 hj jz0 jz1 jz2 rfl (by decide) S5 rfl rfl (HRR.out _ _ (S5.sel [4])) (by rw [bv_length, Nat.mul_one]) (bv_one _) (by unfold maxLen; omega) (by omega) ?_
      intro pa pc w6 S6
      rw [Nat.zero_add] at S6 ⊢
      refine hK.out _ _ ⟨(S6.cell 1 rfl 4 : _), HC.out _ _ (S6.sel [3])⟩ ?_
      clear hK K hHeld
      intro hHeld
      try simp only [Act.put, List.getElem_toArray, List.getElem_cons_zero, List.getElem_cons_succ, List.setIfInBounds_toArray, List.set_cons_zero, List.set_cons_succ]
      refine wpAnyU_tk (by kernel_rfl) (i := 13) (v := ?_) (LN := #[true, true, true, true, true, true, true, true, true, true, true, true, true, true, false, false, false, false, false]) rfl (by kernel_rfl) (by kernel_rfl) (by kernel_rfl) (fun _ _ _ h => h) (by kernel_rfl) (by rfl) (by assumption) ?_ ?_
      rotate_left
      · intro w hSw; (try dsimp only at hSw); first | (go_simp; done) | (go_simp; with_reducible rfl)
      try simp only [Act.put, List.getElem_toArray, List.getElem_cons_zero, List.getElem_cons_succ, List.setIfInBounds_toArray, List.set_cons_zero, List.set_cons_succ]
      refine wpAnyU_one (by decide) (i := 14) (LN := #[true, true, true, true, true, true, true, true, true, true, true, true, true, true, true, false, false, false, false]) (by kernel_rfl) rfl (by kernel_rfl) ?_
      intro K hK
      go_simp
      have S7 := S6.alloc [.int .i64 (1 - e), .slice pa r.length pc] 58
      refine hK.out _ _ ⟨(S7.cell 2 rfl 4 : _), HC.out _ _ (S7.sel [4])⟩ ?_
      clear hK K hHeld
      intro hHeld
      try simp only [Act.put, List.getElem_toArray, List.getElem_cons_zero, List.getElem_cons_succ, List.setIfInBounds_toArray, List.set_cons_zero, List.set_cons_succ]
      obtain ⟨ks, hkn, hkl, S8⟩ := WAY_out (S7.sel [3])
      refine wpAnyU_one (by decide) (i := 15) (LN := #[true, true, true, true, true, true, true, true, true, true, true, true, true, true, true, true, false, false, false]) (by kernel_rfl) rfl (by kernel_rfl) ?_
      intro K hK
      refine step_append_sat rfl _ _ _ rfl 58 i0 _ 2 32 Try.underlying53 hi hz0 hz1 hz2 rfl (by decide) S8 rfl rfl (Rd.lit (S7.block 0 rfl).1) (by rfl) (by simp [Value.oneCell']) (by unfold maxLen; omega) (by omega) ?_
      intro wa9 wc9 w9 S9
      refine hK.out _ _ ⟨(S9.cell 4 rfl 4 : _), HC.out _ _ (S9.sel [5])⟩ ?_
      clear hK K hHeld
      intro hHeld
      try simp only [Act.put, List.getElem_toArray, List.getElem_cons_zero, List.getElem_cons_succ, List.setIfInBounds_toArray, List.set_cons_zero, List.set_cons_succ]
      refine wpAnyU_tk (by kernel_rfl) (i := 16) (v := ?_) (LN := #[true, true, true, true, true, true, true, true, true, true, true, true, true, true, true, true, true, false, false]) rfl (by kernel_rfl) (by kernel_rfl) (by kernel_rfl) (fun _ _ _ h => h) (by kernel_rfl) (by rfl) (by assumption) ?_ ?_
      rotate_left
      · intro w hSw; (try dsimp only at hSw); first | (go_simp; done) | (go_simp; with_reducible rfl)
      try simp only [Act.put, List.getElem_toArray, List.getElem_cons_zero, List.getElem_cons_succ, List.setIfInBounds_toArray, List.set_cons_zero, List.set_cons_succ]
      refine wpAnyU_tk (by kernel_rfl) (i := 17) (v := ?_) (LN := #[true, true, true, true, true, true, true, true, true, true, true, true, true, true, true, true, true, true, false]) rfl (by kernel_rfl) (by kernel_rfl) (by kernel_rfl) (fun _ _ _ h => h) (by kernel_rfl) (by rfl) (by assumption) ?_ ?_
      rotate_left
      · intro w hSw; (try dsimp only at hSw); first | (go_simp; done) | (go_simp; with_reducible rfl)
      try simp only [Act.put, List.getElem_toArray, List.getElem_cons_zero, List.getElem_cons_succ, List.setIfInBounds_toArray, List.set_cons_zero, List.set_cons_succ]
      refine wpAnyU_fin (i := 18) (LN := #[true, true, true, true, true, true, true, true, true, true, true, true, true, true, true, true, true, true, true]) (by kernel_rfl) rfl (by kernel_rfl) ?_
      intro K hK
      have n4 := S9.cell 4 rfl 4
      have m4 := S9.frozen 4 rfl 4
      simp only [List.getElem?_cons_zero, List.getElem?_cons_succ] at n4
      have S10 := S9.setCell (k := 4) (v := .slice wa9 (qs.length + 1) wc9) 4 rfl
      go_simp
      refine hK.out _ _ ?_
      clear hK K hHeld
      try simp only [Act.put, List.getElem_toArray, List.getElem_cons_zero, List.getElem_cons_succ, List.setIfInBounds_toArray, List.set_cons_zero, List.set_cons_succ]
      refine ⟨by kernel_rfl, ?_⟩
      try simp only [Act.put, List.getElem_toArray, List.getElem_cons_zero, List.getElem_cons_succ, List.setIfInBounds_toArray, List.set_cons_zero, List.set_cons_succ]
      clear n4 m4 S4 S5 S6 S7 S8 S9
      go_wp2_with fail
      refine ⟨⟨k + 1, by omega, by go_num, ?_⟩, by simp [intOf]; omega⟩
      rw [HTK.out, ← List.append_assoc, HQS.out]
      have T1 := rowsB_push (S10.sel [3, 1])
      have e1 : wayV (qs ++ [(1 - e, r)]) (ks ++ [(pa, r.length, pc)]) = wayV qs ks ++ [.int .i64 (1 - e), .slice pa r.length pc] := wayV_append hkl
      have e2 : (qs ++ [(1 - e, r)]).map (·.2) = qs.map (·.2) ++ [r] := by rw [List.map_append]; rfl
      have e3 : (qs ++ [(1 - e, r)]).length = qs.length + 1 := by simp
      have T2 := T1.swap
      rw [← e1, ← e2] at T2
      have T3 := WAY_in e3 T2
      exact BW2_open.2 ⟨wa9, wc9, by rw [e3]; exact (T3.sel [1]).tail.swap⟩
    · have hd : decide ((k : Int) < (n : Int)) = false := decide_eq_false (by omega)
      obtain rfl : k = n := by omega
      go_wp2_with fail
      go_end0
      refine ⟨rfl, ?_⟩
      rw [List.take_of_length_le (Nat.le_of_eq HN.out)] at S3
      exact (brs_in HN.out (S3.sel [1, 1])).swap
end Go.Proofs.Ytdgalljalcediaa
