/-
  link: two lists of rows that are the same.
-/
import Derived.Test.YtdgalljalcediaaLiM
import Derived.Test.YtdgalljalcediaaKSame
import Derived.Test.YtdgalljalcediaaSeg
namespace Go.Proofs.Ytdgalljalcediaa
open Go.RowKit Go.Sep Go.Oct
set_option linter.unusedSimpArgs false

def RdRows (w : World) (ao : Option Addr) (rs : List (List Int)) : Prop := ∀ i r, rs[i]? = some r → ∃ b off xa xc, ao = some ⟨b, off, none⟩ ∧ w.cell? ⟨b, off + i, none⟩ = some (.slice xa r.length xc) ∧ Rd w xa (bv r)
theorem RdRows.drewN {w : World} {ao : Option Addr} {rs : List (List Int)} (h : RdRows w ao rs) (n : Nat) : RdRows (w.drewN n) ao rs := h
theorem brs_rows {W0 w : World} {L : List Asn} {ao : Option Addr} {n cap : Nat} {rs : List (List Int)} (S : Sat W0 w (brs ao n cap rs :: L)) : RdRows w ao rs ∧ rs.length = n ∧ n ≤ maxLen := by
  obtain ⟨hs, hn, hl, S1⟩ := brs_out S
  refine ⟨fun i r hi => ?_, hn, Nat.le_trans S1.own_len.2.1 S1.own_len.2.2.1⟩
  obtain ⟨xa, xc, h1, h2, h3, h4⟩ := rowsB_at S1.swap hi
  obtain ⟨b, off, rfl, hc⟩ := S1.own_rd i (hv (xa, r.length, xc)) (by rw [List.getElem?_map, h1]; rfl)
  exact ⟨b, off, xa, xc, rfl, hc, h2⟩

set_option maxRecDepth 100000 in
set_option maxHeartbeats 3200000 in
theorem rows_any {w : World} {a1 a2 : Option Addr} {n c1 c2 : Nat} {xs : List (List Int)} (h1 : RdRows w a1 xs) (h2 : RdRows w a2 xs) (hn : xs.length = n) (hb : ∀ r ∈ xs, r.length ≤ 1000000000) (hn9 : n ≤ maxLen) :
    Calls Try.prog 19 #[.slice a1 n c1, .slice a2 n c2] w fun e w' => e = .returned (.bool true) ∧ ∃ nq, w' = w.drewN nq := by
  have HN := Lib.hid hn
  have HB := Lib.hid hb
  unfold maxLen at hn9
  have H1 := Lib.hid h1
  have H2 := Lib.hid h2
  clear hn hb h1 h2
  have hnn : ((n : Int) != (n : Int)) = false := by simp
  go_enter Try.func19, Try.ntmps19
  go_wp2_with fail
  go_loopw [5] (fun i wr => ∃ (k nq : Nat), k ≤ n ∧ i = .int .i64 k ∧ wr = w.drewN nq) (fun i _ => n - (intOf i).toNat)
  case atStart => exact ⟨0, 0, by omega, rfl, rfl⟩
  case round =>
    obtain ⟨k, nq, hk, rfl, hw⟩ := hrel
    have k0 : (0 : Int) ≤ (k : Int) := by omega
    by_cases hlt : k < n
    · have hw2 : IntKind.i64.wrap ((k : Int) + 1) = (k : Int) + 1 := by rw [IntKind.wrap_i64]; omega
      have k1 : (k : Int) < (n : Int) := by omega
      have hd : decide ((k : Int) < (n : Int)) = true := decide_eq_true k1
      obtain ⟨x, hx⟩ : ∃ x, xs[k]? = some x := ⟨xs[k]'(by rw [HN.out]; exact hlt), List.getElem?_eq_getElem _⟩
      have hxl := HB.out x (List.mem_of_getElem? hx)
      have hR1 : RdRows wr a1 xs := by rw [hw]; exact H1.out.drewN nq
      have hR2 : RdRows wr a2 xs := by rw [hw]; exact H2.out.drewN nq
      obtain ⟨b, o, xa, xc, rfl, e1, r1⟩ := hR1 k x hx
      obtain ⟨b', o', ya, yc, rfl, e2, r2⟩ := hR2 k x hx
      clear hR1 hR2 hx
      have HW := Lib.hid hw
      clear hw
      go_wp2_with fail
      refine wp_region_drawn (N := 10) (LN := #[false, false, false, false, false, false, false, false, false, false]) (by kernel_rfl) (by kernel_rfl) (by kernel_rfl) ?_
      have e1d : wr.drew.cell? ⟨b, o + k, none⟩ = some (.slice xa x.length xc) := e1
      have e2d : wr.drew.cell? ⟨b', o' + k, none⟩ = some (.slice ya x.length yc) := e2
      have r1d : Rd wr.drew xa (bv x) := r1
      have r2d : Rd wr.drew ya (bv x) := r2
      have HWD : Hid (∃ nq, wr.drew = w.drewN nq) := ⟨nq + 1, by rw [HW.out]; rfl⟩
      clear e1 e2 r1 r2 HW
      generalize wr.drew = w5 at e1d e2d r1d r2d HWD ⊢
      refine wpAny_seg 0 8 2 10 #[true, true, true, true, true, true, true, true, false, false] (by kernel_rfl) (by kernel_rfl) ?_
      simp only [List.take_succ_cons, List.take_zero, List.drop_succ_cons, List.drop_zero]
      refine wpStill_step (fun K hK => ?_); go_simp; refine hK _ ?_; clear hK K
      try simp only [Act.put, List.getElem_toArray, List.getElem_cons_zero, List.getElem_cons_succ, List.setIfInBounds_toArray, List.set_cons_zero, List.set_cons_succ]
      refine wpStill_step (fun K hK => ?_); go_simp; refine hK _ ?_; clear hK K
      try simp only [Act.put, List.getElem_toArray, List.getElem_cons_zero, List.getElem_cons_succ, List.setIfInBounds_toArray, List.set_cons_zero, List.set_cons_succ]
      refine wpStill_step (fun K hK => ?_); go_simp; refine hK _ ?_; clear hK K
      try simp only [Act.put, List.getElem_toArray, List.getElem_cons_zero, List.getElem_cons_succ, List.setIfInBounds_toArray, List.set_cons_zero, List.set_cons_succ]
      refine wpStill_step (fun K hK => ?_); go_simp; refine hK _ ?_; clear hK K
      try simp only [Act.put, List.getElem_toArray, List.getElem_cons_zero, List.getElem_cons_succ, List.setIfInBounds_toArray, List.set_cons_zero, List.set_cons_succ]
      refine wpStill_step (fun K hK => ?_); go_simp; refine hK _ ?_; clear hK K
      try simp only [Act.put, List.getElem_toArray, List.getElem_cons_zero, List.getElem_cons_succ, List.setIfInBounds_toArray, List.set_cons_zero, List.set_cons_succ]
      refine wpStill_step (fun K hK => ?_); go_simp; refine hK _ ?_; clear hK K
      try simp only [Act.put, List.getElem_toArray, List.getElem_cons_zero, List.getElem_cons_succ, List.setIfInBounds_toArray, List.set_cons_zero, List.set_cons_succ]
      refine wpStill_step (fun K hK => ?_); go_simp; refine hK _ ?_; clear hK K
      try simp only [Act.put, List.getElem_toArray, List.getElem_cons_zero, List.getElem_cons_succ, List.setIfInBounds_toArray, List.set_cons_zero, List.set_cons_succ]
      refine wpStill_step (fun K hK => ?_); go_simp; refine hK _ ?_; clear hK K
      try simp only [Act.put, List.getElem_toArray, List.getElem_cons_zero, List.getElem_cons_succ, List.setIfInBounds_toArray, List.set_cons_zero, List.set_cons_succ]
      refine wpStill_nil ?_
      refine wpAny_one (i := 8) (LN := #[true, true, true, true, true, true, true, true, true, false]) (by kernel_rfl) rfl (by kernel_rfl) ?_
      intro K hK
      go_simp
      go_at_call 27
      refine (same_any r1d r2d rfl rfl (by omega) (by omega)).mono ?_
      rw [decide_eq_true (rfl : x = x)]
      rintro e w6 ⟨rfl, hq⟩
      go_wp2_with fail
      refine hK.out _ _ ?_
      clear hK K
      try simp only [Act.put, List.getElem_toArray, List.getElem_cons_zero, List.getElem_cons_succ, List.setIfInBounds_toArray, List.set_cons_zero, List.set_cons_succ]
      refine wpAny_loc (i := 9) (v := ?_) (LN := #[true, true, true, true, true, true, true, true, true, true]) rfl (by kernel_rfl) (by kernel_rfl) (by kernel_rfl) (fun _ _ _ h => h) (by kernel_rfl) (by rfl) ?_ ?_
      rotate_left
      · intro w; first | (go_simp; done) | (go_simp; with_reducible rfl)
      try simp only [Act.put, List.getElem_toArray, List.getElem_cons_zero, List.getElem_cons_succ, List.setIfInBounds_toArray, List.set_cons_zero, List.set_cons_succ]
      refine ⟨by kernel_rfl, ?_⟩
      try simp only [Act.put, List.getElem_toArray, List.getElem_cons_zero, List.getElem_cons_succ, List.setIfInBounds_toArray, List.set_cons_zero, List.set_cons_succ]
      go_wp2_with fail
      obtain ⟨n1, h1⟩ := HWD.out
      obtain ⟨n2, h2⟩ := hq
      refine ⟨⟨k + 1, n1 + n2, by omega, by go_num, ?_⟩, by simp [intOf]; omega⟩
      rw [h2, h1]
      simp [World.drewN, Nat.add_assoc]
    · have hd : decide ((k : Int) < (n : Int)) = false := decide_eq_false (by omega)
      go_wp2_with fail
      go_ret
      exact ⟨rfl, nq, rfl⟩
end Go.Proofs.Ytdgalljalcediaa
