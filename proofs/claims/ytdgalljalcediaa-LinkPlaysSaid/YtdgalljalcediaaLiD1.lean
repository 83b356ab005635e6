/-
  link: the document's packet.
-/
import Derived.Test.YtdgalljalcediaaLi2
namespace Go.Proofs.Ytdgalljalcediaa
open Go.RowKit Go.Sep Go.Oct
set_option linter.unusedSimpArgs false

def DK (g : Nat) (id : Int) (sl : Value) (first under came waited sent vain : Int) : Asn := blk g [.int .i64 id, sl, .int .i64 under, .int .i64 first, .int .i64 came, .int .i64 waited, .int .i64 sent, .int .i64 vain] 41

set_option maxRecDepth 100000 in
set_option maxHeartbeats 6400000 in
theorem r16packet_none {W0 w : World} {L : List Asn} {g : Nat} {id first under came waited sent vain : Int} {sl : Value} (S : Sat W0 w (DK g id sl first under came waited sent vain :: L))
    (hid : I64 id) (hca : I64 came) (hse : 0 ≤ sent ∧ sent ≤ 1000000000000000) :
    Calls Try.prog 37 #[.pointer (some ⟨g, 0, none⟩), .int .i64 0] w
      (Packed W0 (DK g id sl first under came waited (sent + 1) vain :: L) (packP id 0 came [])) := by
  have S1 : Sat W0 w (blk g [.int .i64 id, sl, .int .i64 under, .int .i64 first, .int .i64 came, .int .i64 waited, .int .i64 sent, .int .i64 vain] 41 :: L) := S
  obtain ⟨i0, hi, hz0, hz1, hz2⟩ := info_parts Try.infoB
  have c0 := S1.cell 0 rfl 0
  simp only [List.getElem?_cons_zero, List.getElem?_cons_succ] at c0
  have hb1 := num_length id
  have hb2 := num_length 0
  have hb3 := num_length came
  have hs1 : IntKind.i64.wrap (sent + 1) = sent + 1 := by rw [IntKind.wrap_i64]; omega
  have HBB : Hid (Bytes (num id ++ num 0 ++ num came)) := ((num_bytes hid.1 hid.2).append (num_bytes (by omega) (by omega))).append (num_bytes hca.1 hca.2)
  have HP : Hid (packP id 0 came [] = (encF (num id ++ num 0 ++ num came)).1) := by show _ = _; unfold packP packB; rw [if_neg (by omega), List.append_nil]
  obtain ⟨Z, hZ⟩ : ∃ Z, num id ++ num 0 ++ num came = Z := ⟨_, rfl⟩
  have HZL : Hid (Z.length = (num id).length + (num 0).length + (num came).length) := by show _ = _; rw [← hZ]; simp only [List.length_append]
  rw [hZ] at HBB HP
  have HZ := Lib.hid hZ
  clear hZ
  go_enter Try.func37, Try.ntmps37
  go_wp2_with (first
    | (go_at_call 44; refine (refNum_any S4 came hca.1 hca.2).mono ?_; rintro e w5 ⟨a5, n5, rfl, S5⟩)
    | (go_at_call 44; refine (refNum_any S2 0 (by omega) (by omega)).mono ?_; rintro e w3 ⟨a3, n3, rfl, S3⟩)
    | (go_at_call 44; refine (refNum_any S1 id hid.1 hid.2).mono ?_; rintro e w2 ⟨a2, n2, rfl, S2⟩)
    | (at_builtin; refine wpList_append_sat rfl (.tmp 12) (.tmp 14) _ rfl 5 i0 (.int .u8 0) 1 1 Try.underlying29 hi hz0 hz1 hz2 rfl (by decide) S3.swap rfl rfl S3.own_rd (by rw [bv_length, Nat.mul_one]) (bv_one _) (by unfold maxLen; omega) (by omega) ?_; intro a4 n4 w4 S4; rw [← bv_append] at S4; have c4 := S4.cell 2 rfl 4; simp only [List.getElem?_cons_zero, List.getElem?_cons_succ] at c4)
    | (at_builtin; refine wpList_append_sat rfl (.tmp 16) (.tmp 21) _ rfl 5 i0 (.int .u8 0) 1 1 Try.underlying29 hi hz0 hz1 hz2 rfl (by decide) S5.swap rfl rfl S5.own_rd (by rw [bv_length, Nat.mul_one]) (bv_one _) (by unfold maxLen; omega) (by omega) ?_; intro a6 n6 w6 S6; rw [← bv_append, HZ.out] at S6; have c6 := S6.cell 3 rfl 6; have f6 := S6.frozen 3 rfl 6; simp only [List.getElem?_cons_zero, List.getElem?_cons_succ] at c6; have S7 := S6.setCell (k := 6) (v := .int .i64 (sent + 1)) 3 rfl)
    | (go_at_call 46; refine (r4Encode_any (xs := Z) S7 (fun w' h => h.own_rd) HZL.out HBB.out (by omega)).mono ?_; unfold Encoded; rintro e w8 ⟨a8, n8, rfl, S8⟩))
  go_ret
  refine ⟨a8, n8, ?_, ?_⟩
  · rw [HP.out]; rfl
  · rw [HP.out]
    exact (S8.sel [1, 1, 1]).tail.tail.tail

set_option maxRecDepth 100000 in
set_option maxHeartbeats 6400000 in
theorem r16packet_row {W0 w : World} {L : List Asn} {g : Nat} {id first under came waited sent vain : Int} {rb ro m rc : Nat} (S : Sat W0 w (DK g id (.slice (some ⟨rb, ro, none⟩) m rc) first under came waited sent vain :: L))
    {j : Nat} (hj : j < m) (hmr : m ≤ rc) {n : Int} (hn : n = first + (j : Int)) (hn0 : 0 < n) {a : Option Addr} {k c : Nat} {r : List Int} (HE : ∀ w', Sat W0 w' L → w'.cell? ⟨rb, ro + j, none⟩ = some (.slice a k c)) (hR : ∀ w', Sat W0 w' L → Rd w' a (bv r)) (hk : r.length = k) (hB : Bytes r)
    (hid : I64 id) (hnI : I64 n) (hca : I64 came) (hse : 0 ≤ sent ∧ sent ≤ 1000000000000000) (hrl : k ≤ 10000) (hm9 : m ≤ 100000) :
    Calls Try.prog 37 #[.pointer (some ⟨g, 0, none⟩), .int .i64 n] w
      (Packed W0 (DK g id (.slice (some ⟨rb, ro, none⟩) m rc) first under came 0 (sent + 1) vain :: L) (packP id n came r)) := by
  have S1 : Sat W0 w (blk g [.int .i64 id, .slice (some ⟨rb, ro, none⟩) m rc, .int .i64 under, .int .i64 first, .int .i64 came, .int .i64 waited, .int .i64 sent, .int .i64 vain] 41 :: L) := S
  obtain ⟨i0, hi, hz0, hz1, hz2⟩ := info_parts Try.infoB
  have c0 := S1.cell 0 rfl 0
  simp only [List.getElem?_cons_zero, List.getElem?_cons_succ] at c0
  have hb1 := num_length id
  have hb2 := num_length n
  have hb3 := num_length came
  have hb4 := num_length r.length
  have hs1 : IntKind.i64.wrap (sent + 1) = sent + 1 := by rw [IntKind.wrap_i64]; omega
  have hd : decide (0 < n) = true := decide_eq_true hn0
  have HW : Hid (IntKind.i64.wrap (n - first) = (j : Int)) := by show _ = _; rw [IntKind.wrap_i64]; omega
  have HBB : Hid (Bytes ((num id ++ num n ++ num came) ++ (num r.length ++ r))) := (((num_bytes hid.1 hid.2).append (num_bytes hnI.1 hnI.2)).append (num_bytes hca.1 hca.2)).append ((num_bytes (by omega) (by omega)).append hB)
  have HP : Hid (packP id n came r = (encF ((num id ++ num n ++ num came) ++ (num r.length ++ r))).1) := by show _ = _; unfold packP packB; rw [if_pos hn0]
  have hzl : ((num id ++ num n ++ num came) ++ (num r.length ++ r)).length ≤ 20000 := by simp only [List.length_append]; omega
  have HK := Lib.hid hk
  obtain ⟨Z, hZ⟩ : ∃ Z, num id ++ num n ++ num came = Z := ⟨_, rfl⟩
  obtain ⟨X, hX⟩ : ∃ X, num r.length ++ r = X := ⟨_, rfl⟩
  have hnl : X.length ≤ 10 + k := by rw [← hX, List.length_append]; omega
  have HRB := Lib.hid (fun (M : List Asn) (w : World) (hM : ∀ w', Sat W0 w' M → Rd w' a (bv r)) (h : Sat W0 w M) => show Calls Try.prog 45 #[.slice a k c] w (fun e w' => ∃ ao cap, e = .returned (.slice ao X.length cap) ∧ Sat W0 w' (sbs ao X.length cap X :: M)) by
    have := refBytes_any h (c := c) hM hk (by omega)
    unfold GivesB at this
    rw [hX] at this
    exact this)
  rw [hX] at HBB HP hzl
  clear hX
  obtain ⟨Y, hY⟩ : ∃ Y, Z ++ X = Y := ⟨_, rfl⟩
  have HZL : Hid (Z.length = (num id).length + (num n).length + (num came).length) := by show _ = _; rw [← hZ]; simp only [List.length_append]
  have HYL : Hid (Y.length = (num id).length + (num n).length + (num came).length + X.length) := by show _ = _; rw [← hY, List.length_append, HZL.out]
  rw [hZ, hY] at HBB HP hzl
  have HZ := Lib.hid hZ
  have HY := Lib.hid hY
  clear hZ hY
  have j0 : (0 : Int) ≤ (j : Int) := by omega
  have j1 : (j : Int) < (m : Int) := by omega
  have HC := Lib.hid (fun (w' : World) (h : Sat W0 w' (blk g [.int .i64 id, .slice (some ⟨rb, ro, none⟩) m rc, .int .i64 under, .int .i64 first, .int .i64 came, .int .i64 waited, .int .i64 sent, .int .i64 vain] 41 :: L)) =>
    (⟨(h.cell 0 rfl 1 : _), (h.cell 0 rfl 3 : _), HE w' h.tail⟩ : w'.cell? ⟨g, 1, none⟩ = some (.slice (some ⟨rb, ro, none⟩) m rc) ∧ w'.cell? ⟨g, 3, none⟩ = some (.int .i64 first) ∧ w'.cell? ⟨rb, ro + j, none⟩ = some (.slice a k c)))
  have HJ := Lib.hid hn
  clear hn hk
  go_enter Try.func37, Try.ntmps37
  go_wp2_with (first
    | (go_at_call 44; refine (refNum_any S4 came hca.1 hca.2).mono ?_; rintro e w5 ⟨a5, n5, rfl, S5⟩)
    | (go_at_call 44; refine (refNum_any S2 n hnI.1 hnI.2).mono ?_; rintro e w3 ⟨a3, n3, rfl, S3⟩)
    | (go_at_call 44; refine (refNum_any S1 id hid.1 hid.2).mono ?_; rintro e w2 ⟨a2, n2, rfl, S2⟩)
    | (at_builtin; refine wpList_append_sat rfl (.tmp 12) (.tmp 14) _ rfl 5 i0 (.int .u8 0) 1 1 Try.underlying29 hi hz0 hz1 hz2 rfl (by decide) S3.swap rfl rfl S3.own_rd (by rw [bv_length, Nat.mul_one]) (bv_one _) (by unfold maxLen; omega) (by omega) ?_; intro a4 n4 w4 S4; rw [← bv_append] at S4; have c4 := S4.cell 2 rfl 4; simp only [List.getElem?_cons_zero, List.getElem?_cons_succ] at c4)
    | (at_builtin; refine wpList_append_sat rfl (.tmp 16) (.tmp 21) _ rfl 5 i0 (.int .u8 0) 1 1 Try.underlying29 hi hz0 hz1 hz2 rfl (by decide) S5.swap rfl rfl S5.own_rd (by rw [bv_length, Nat.mul_one]) (bv_one _) (by unfold maxLen; omega) (by omega) ?_; intro a6 n6 w6 S6; rw [← bv_append, HZ.out] at S6))
  have S7 := (S6.sel [1, 1]).tail.tail.drew
  clear S1 S2 S3 S4 S5 S6 c0 c4
  refine wp_region_drawn (N := 16) (LN := #[false, false, false, false, false, false, false, false, false, false, false, false, false, false, false, false]) (by kernel_rfl) (by kernel_rfl) (by kernel_rfl) ?_
  generalize w6.drew = w7 at S7 ⊢
  refine wpAny_held (fun w' => w'.cell? ⟨g, 1, none⟩ = some (.slice (some ⟨rb, ro, none⟩) m rc) ∧ w'.cell? ⟨g, 3, none⟩ = some (.int .i64 first) ∧ w'.cell? ⟨rb, ro + j, none⟩ = some (.slice a k c)) (HC.out _ S7.tail) (fun hHeld => ?_)
  refine wpAnyH_tk (i := 0) (v := ?_) (LN := #[true, false, false, false, false, false, false, false, false, false, false, false, false, false, false, false]) rfl (by kernel_rfl) (by kernel_rfl) (by kernel_rfl) (fun _ _ _ h => h) (by kernel_rfl) (by rfl) (by assumption) ?_ ?_
  rotate_left
  · intro w hSw; (try dsimp only at hSw); first | (go_simp; done) | (go_simp; with_reducible rfl)
  try simp only [Act.put, List.getElem_toArray, List.getElem_cons_zero, List.getElem_cons_succ, List.setIfInBounds_toArray, List.set_cons_zero, List.set_cons_succ]
  refine wpAnyH_tk (i := 1) (v := ?_) (LN := #[true, true, false, false, false, false, false, false, false, false, false, false, false, false, false, false]) rfl (by kernel_rfl) (by kernel_rfl) (by kernel_rfl) (fun _ _ _ h => h) (by kernel_rfl) (by rfl) (by assumption) ?_ ?_
  rotate_left
  · intro w hSw; (try dsimp only at hSw); first | (go_simp; done) | (go_simp; with_reducible rfl)
  try simp only [Act.put, List.getElem_toArray, List.getElem_cons_zero, List.getElem_cons_succ, List.setIfInBounds_toArray, List.set_cons_zero, List.set_cons_succ]
  refine wpAnyH_tk (i := 2) (v := ?_) (LN := #[true, true, true, false, false, false, false, false, false, false, false, false, false, false, false, false]) rfl (by kernel_rfl) (by kernel_rfl) (by kernel_rfl) (fun _ _ _ h => h) (by kernel_rfl) (by rfl) (by assumption) ?_ ?_
  rotate_left
  · intro w hSw; (try dsimp only at hSw); first | (go_simp; done) | (go_simp; with_reducible rfl)
  try simp only [Act.put, List.getElem_toArray, List.getElem_cons_zero, List.getElem_cons_succ, List.setIfInBounds_toArray, List.set_cons_zero, List.set_cons_succ]
  refine wpAnyH_tk (i := 3) (v := ?_) (LN := #[true, true, true, true, false, false, false, false, false, false, false, false, false, false, false, false]) rfl (by kernel_rfl) (by kernel_rfl) (by kernel_rfl) (fun _ _ _ h => h) (by kernel_rfl) (by rfl) (by assumption) ?_ ?_
  rotate_left
  · intro w hSw; (try dsimp only at hSw); first | (go_simp; done) | (go_simp; with_reducible rfl)
  try simp only [Act.put, List.getElem_toArray, List.getElem_cons_zero, List.getElem_cons_succ, List.setIfInBounds_toArray, List.set_cons_zero, List.set_cons_succ]
  refine wpAnyH_tk (i := 4) (v := ?_) (LN := #[true, true, true, true, true, false, false, false, false, false, false, false, false, false, false, false]) rfl (by kernel_rfl) (by kernel_rfl) (by kernel_rfl) (fun _ _ _ h => h) (by kernel_rfl) (by rfl) (by assumption) ?_ ?_
  rotate_left
  · intro w hSw; (try dsimp only at hSw); first | (go_simp; done) | (go_simp; with_reducible rfl)
  try simp only [Act.put, List.getElem_toArray, List.getElem_cons_zero, List.getElem_cons_succ, List.setIfInBounds_toArray, List.set_cons_zero, List.set_cons_succ]
  refine wpAnyH_tk (i := 5) (v := ?_) (LN := #[true, true, true, true, true, true, false, false, false, false, false, false, false, false, false, false]) rfl (by kernel_rfl) (by kernel_rfl) (by kernel_rfl) (fun _ _ _ h => h) (by kernel_rfl) (by rfl) (by assumption) ?_ ?_
  rotate_left
  · intro w hSw; (try dsimp only at hSw); first | (go_simp; done) | (go_simp; with_reducible rfl)
  try simp only [Act.put, List.getElem_toArray, List.getElem_cons_zero, List.getElem_cons_succ, List.setIfInBounds_toArray, List.set_cons_zero, List.set_cons_succ]
  refine wpAnyH_tk (i := 6) (v := ?_) (LN := #[true, true, true, true, true, true, true, false, false, false, false, false, false, false, false, false]) rfl (by kernel_rfl) (by kernel_rfl) (by kernel_rfl) (fun _ _ _ h => h) (by kernel_rfl) (by rfl) (by assumption) ?_ ?_
  rotate_left
  · intro w hSw; (try dsimp only at hSw); first | (go_simp; done) | (go_simp; with_reducible rfl)
  try simp only [Act.put, List.getElem_toArray, List.getElem_cons_zero, List.getElem_cons_succ, List.setIfInBounds_toArray, List.set_cons_zero, List.set_cons_succ]
  refine wpAnyH_tk (i := 7) (v := ?_) (LN := #[true, true, true, true, true, true, true, true, false, false, false, false, false, false, false, false]) rfl (by kernel_rfl) (by kernel_rfl) (by kernel_rfl) (fun _ _ _ h => h) (by kernel_rfl) (by rfl) (by assumption) ?_ ?_
  rotate_left
  · intro w hSw; (try dsimp only at hSw); first | (go_simp; done) | (go_simp; with_reducible rfl)
  try simp only [Act.put, List.getElem_toArray, List.getElem_cons_zero, List.getElem_cons_succ, List.setIfInBounds_toArray, List.set_cons_zero, List.set_cons_succ]
  refine wpAnyH_tk (i := 8) (v := ?_) (LN := #[true, true, true, true, true, true, true, true, true, false, false, false, false, false, false, false]) rfl (by kernel_rfl) (by kernel_rfl) (by kernel_rfl) (fun _ _ _ h => h) (by kernel_rfl) (by rfl) (by assumption) ?_ ?_
  rotate_left
  · intro w hSw; (try dsimp only at hSw); first | (go_simp; done) | (go_simp; with_reducible rfl)
  try simp only [Act.put, List.getElem_toArray, List.getElem_cons_zero, List.getElem_cons_succ, List.setIfInBounds_toArray, List.set_cons_zero, List.set_cons_succ]
  refine wpAnyH_tk (i := 9) (v := ?_) (LN := #[true, true, true, true, true, true, true, true, true, true, false, false, false, false, false, false]) rfl (by kernel_rfl) (by kernel_rfl) (by kernel_rfl) (fun _ _ _ h => h) (by kernel_rfl) (by rfl) (by assumption) ?_ ?_
  rotate_left
  · intro w hSw; (try dsimp only at hSw); first | (go_simp; done) | (go_simp; with_reducible rfl)
  try simp only [Act.put, List.getElem_toArray, List.getElem_cons_zero, List.getElem_cons_succ, List.setIfInBounds_toArray, List.set_cons_zero, List.set_cons_succ]
  refine wpAnyH_tk (i := 10) (v := ?_) (LN := #[true, true, true, true, true, true, true, true, true, true, true, false, false, false, false, false]) rfl (by kernel_rfl) (by kernel_rfl) (by kernel_rfl) (fun _ _ _ h => h) (by kernel_rfl) (by rfl) (by assumption) ?_ ?_
  rotate_left
  · intro w hSw; (try dsimp only at hSw); first | (go_simp; done) | (go_simp; with_reducible rfl)
  try simp only [Act.put, List.getElem_toArray, List.getElem_cons_zero, List.getElem_cons_succ, List.setIfInBounds_toArray, List.set_cons_zero, List.set_cons_succ]
  rw [HW.out]
  refine wpAnyH_tk (i := 11) (v := ?_) (LN := #[true, true, true, true, true, true, true, true, true, true, true, true, false, false, false, false]) rfl (by kernel_rfl) (by kernel_rfl) (by kernel_rfl) (fun _ _ _ h => h) (by kernel_rfl) (by rfl) (by assumption) ?_ ?_
  rotate_left
  · intro w hSw; (try dsimp only at hSw); first | (go_simp; done) | (go_simp; with_reducible rfl)
  try simp only [Act.put, List.getElem_toArray, List.getElem_cons_zero, List.getElem_cons_succ, List.setIfInBounds_toArray, List.set_cons_zero, List.set_cons_succ]
  refine wpAnyH_tk (i := 12) (v := ?_) (LN := #[true, true, true, true, true, true, true, true, true, true, true, true, true, false, false, false]) rfl (by kernel_rfl) (by kernel_rfl) (by kernel_rfl) (fun _ _ _ h => h) (by kernel_rfl) (by rfl) (by assumption) ?_ ?_
  rotate_left
  · intro w hSw; (try dsimp only at hSw); first | (go_simp; done) | (go_simp; with_reducible rfl)
  try simp only [Act.put, List.getElem_toArray, List.getElem_cons_zero, List.getElem_cons_succ, List.setIfInBounds_toArray, List.set_cons_zero, List.set_cons_succ]
  refine wpAnyH_one (i := 13) (LN := #[true, true, true, true, true, true, true, true, true, true, true, true, true, true, false, false]) (by kernel_rfl) rfl (by kernel_rfl) ?_
  intro K hK
  go_simp
  go_at_call 45
  refine (HRB.out _ _ (fun w' h => hR w' h.tail.tail) S7).mono ?_
  rintro e w8 ⟨a8, n8, rfl, S8⟩
  go_wp2_with fail
  refine hK.out _ _ (HC.out _ S8.tail.tail) ?_
  clear hK K hHeld
  intro hHeld
  try simp only [Act.put, List.getElem_toArray, List.getElem_cons_zero, List.getElem_cons_succ, List.setIfInBounds_toArray, List.set_cons_zero, List.set_cons_succ]
  refine wpAnyH_one (i := 14) (LN := #[true, true, true, true, true, true, true, true, true, true, true, true, true, true, true, false]) (by kernel_rfl) rfl (by kernel_rfl) ?_
  intro K hK
  refine step_append_sat rfl _ _ _ rfl 5 i0 (.int .u8 0) 1 1 Try.underlying29 hi hz0 hz1 hz2 rfl (by decide) S8.swap rfl rfl S8.own_rd (by rw [bv_length, Nat.mul_one]) (bv_one _) (by unfold maxLen; omega) (by omega) ?_
  intro a9 n9 w9 S9
  rw [← bv_append, HY.out] at S9
  refine hK.out _ _ (HC.out _ S9.tail.tail) ?_
  clear hK K hHeld
  intro hHeld
  try simp only [Act.put, List.getElem_toArray, List.getElem_cons_zero, List.getElem_cons_succ, List.setIfInBounds_toArray, List.set_cons_zero, List.set_cons_succ]
  refine wpAnyH_tk (i := 15) (v := ?_) (LN := #[true, true, true, true, true, true, true, true, true, true, true, true, true, true, true, true]) rfl (by kernel_rfl) (by kernel_rfl) (by kernel_rfl) (fun _ _ _ h => h) (by kernel_rfl) (by rfl) (by assumption) ?_ ?_
  rotate_left
  · intro w hSw; (try dsimp only at hSw); first | (go_simp; done) | (go_simp; with_reducible rfl)
  try simp only [Act.put, List.getElem_toArray, List.getElem_cons_zero, List.getElem_cons_succ, List.setIfInBounds_toArray, List.set_cons_zero, List.set_cons_succ]
  refine ⟨by kernel_rfl, ?_⟩
  try simp only [Act.put, List.getElem_toArray, List.getElem_cons_zero, List.getElem_cons_succ, List.setIfInBounds_toArray, List.set_cons_zero, List.set_cons_succ]
  clear hHeld
  have S10 := (S9.sel [1]).tail
  have c5 := S10.cell 1 rfl 5
  have c6 := S10.cell 1 rfl 6
  have f5 := S10.frozen 1 rfl 5
  have f6 := S10.frozen 1 rfl 6
  simp only [List.getElem?_cons_zero, List.getElem?_cons_succ] at c5 c6
  have S11 := (S10.setCell (k := 5) (v := .int .i64 0) 1 rfl).setCell (k := 6) (v := .int .i64 (sent + 1)) 1 rfl
  go_wp2_with (first
    | (go_at_call 46; refine (r4Encode_any (xs := Y) S11 (fun w' h => h.own_rd) HYL.out HBB.out (by omega)).mono ?_; unfold Encoded; rintro e w12 ⟨a12, n12, rfl, S12⟩))
  go_ret
  refine ⟨a12, n12, ?_, ?_⟩
  · rw [HP.out]; rfl
  · rw [HP.out]
    exact (S12.sel [1]).tail
end Go.Proofs.Ytdgalljalcediaa
