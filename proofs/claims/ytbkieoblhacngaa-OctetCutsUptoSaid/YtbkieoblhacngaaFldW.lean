/-
  octet: a row is spoiled; the document's bytes of a field.
-/
import Derived.Test.YtbkieoblhacngaaFld
import Derived.Test.YtbkieoblhacngaaRef1W
namespace Go.Proofs.Ytbkieoblhacngaa
open Go.RowKit Go.Sep Go.Oct

set_option maxRecDepth 100000 in
theorem spoil_any {W0 w : World} {L : List Asn} {ao : Option Addr} {n cap : Nat} {bs : List Int} (S : Sat W0 w (sbs ao n cap bs :: L)) (hn : n ≤ 1000000000000) :
    Calls Try.prog 34 #[.slice ao n cap] w fun e w' => e = .returned (.tuple #[]) ∧ Sat W0 w' L := by
  obtain ⟨i0, hi, hz0, hz1, hz2⟩ := info_parts Try.infoB
  go_enter Try.func34, Try.ntmps34
  go_wp2_with (at_builtin; refine wpList_append_sat rfl (.tmp 4) (.tmp 5) _ rfl 5 i0 (.int .u8 0) 1 1 Try.underlying22 hi hz0 hz1 hz2 rfl (by decide) (S.alloc [.int .u8 99] 5).swap rfl rfl (Rd.lit (heap_alloc_new w _)) rfl (bv_one [99]) (by unfold maxLen; omega) (by omega) ?_; intro ao1 cap1 w1 S1)
  go_loopw [3] (fun i wr => ∃ (k : Nat) (xs : List Value), k ≤ n + 1 ∧ i = .int .i64 k ∧ xs.length = n + 1 ∧ Sat W0 wr (slc 5 1 ao1 (n + 1) cap1 xs :: blk w.heap.size [.int .u8 99] 5 :: L)) (fun i _ => n + 1 - (intOf i).toNat)
  case atStart =>
    refine ⟨0, _, by omega, rfl, ?_, S1⟩
    have := S1.own_len
    omega
  case round =>
    obtain ⟨k, xs, hk, rfl, hx, S2⟩ := hrel
    by_cases hlt : k < n + 1
    · cases ao1 with
      | none => have := (Sat.own_none.1 S2).1; omega
      | some ad =>
        obtain ⟨b, off, rfl⟩ := S2.own_addr
        obtain ⟨u, hu⟩ : ∃ u, xs[k]? = some u := ⟨xs[k], List.getElem?_eq_getElem (by omega)⟩
        obtain ⟨hc, hz⟩ := S2.own_cell hu
        have S3 := S2.own_set (i := k) (by omega) (.int .u8 98)
        go_wp2
        go_roundw
        case rel => exact ⟨k + 1, _, by omega, rfl, by rw [List.length_set]; exact hx, S3⟩
        case measure => simp [intOf]; omega
    · go_wp2
      go_end0
      exact ⟨rfl, S2.tail.tail⟩
/-- the bytes of a field, as the document lays them -/
def fb (f : Fd) : List Int :=
  if f.kind = 1 then [f.n % 256]
  else if f.kind = 2 then [f.n % 65536 % 256, f.n % 65536 / 256]
  else if f.kind = 3 then [f.n % 4294967296 % 256, f.n % 4294967296 / 256 % 256, f.n % 4294967296 / 65536 % 256, f.n % 4294967296 / 16777216]
  else if f.kind = 4 then num f.n
  else if f.kind = 5 then num f.bs.length ++ f.bs
  else f.h

set_option maxRecDepth 100000 in
theorem bytes_any {W0 w : World} {L : List Asn} (S : Sat W0 w L) {f : Fd} (hf : Good W0 f) (hl : f.len ≤ 3000) :
    Calls Try.prog 25 #[.agg (fcells f).toArray] w (GivesB W0 L (fb f)) := by
  have S0 : Sat W0 (w.alloc (.cells (fcells f).toArray 44)) (blk w.heap.size (fcells f) 44 :: L) := S.alloc (fcells f) _
  have c0 := S0.cell 0 rfl 0
  have c1 := S0.cell 0 rfl 1
  have c2 := S0.cell 0 rfl 2
  have hR3 : Rd (w.alloc (.cells (fcells f).toArray 44)) (some ⟨w.heap.size, 3, none⟩) (bv f.h) := by
    have h := (Rd.lit (S0.block 0 rfl).1).drop 3
    rw [Nat.zero_add] at h
    exact h
  have hR2 : ∀ w', Sat W0 w' (blk w.heap.size (fcells f) 44 :: L) → Rd w' f.ao (bv f.bs) := fun w' h => hf.rd.below h.below
  have q0 : (fcells f)[0]? = some (.int .i64 f.kind) := rfl
  have q1 : (fcells f)[1]? = some (.int .i64 f.n) := rfl
  have q2 : (fcells f)[2]? = some (.slice f.ao f.len f.cap) := rfl
  rw [q0] at c0
  rw [q1] at c1
  rw [q2] at c2
  have hn := hf.n
  have hbl := hf.len
  have HB : Hid (fb f = fb f) := rfl
  generalize fcells f = cs at S0 c0 c1 c2 hR2 hR3 ⊢
  by_cases k1 : f.kind = 1
  · rw [k1] at c0
    have HF : Hid (fb f = [f.n % 256]) := by show _ = _; unfold fb; rw [if_pos k1]
    have S1 := Sat.sbs_new (cap := 1) (bs := [f.n % 256]) (post := []) (S0.alloc (bv [f.n % 256]) 5) rfl (Nat.le_refl _) (by unfold maxLen; omega) (by simp)
    simp only [World.size_alloc] at S1
    clear hR2 k1
    go_enter Try.func25, Try.ntmps25
    go_wp2_with fail
    go_ret
    unfold GivesB
    rw [HF.out]
    exact ⟨_, 1, rfl, (S1.sel [1]).tail⟩
  by_cases k2 : f.kind = 2
  · rw [k2] at c0
    have HF : Hid (fb f = [f.n % 65536 % 256, f.n % 65536 / 256]) := by show _ = _; unfold fb; rw [if_neg k1, if_pos k2]
    clear hR2 k1 k2
    go_enter Try.func25, Try.ntmps25
    go_wp2_with (go_at_call 39; refine (refTwo_any S0 (f.n % 65536) (by omega) (by omega)).mono ?_; unfold GivesB; rintro e w1 ⟨ao1, cap1, rfl, S1⟩)
    go_ret
    unfold GivesB
    rw [HF.out]
    exact ⟨_, cap1, rfl, (S1.sel [1]).tail⟩
  by_cases k3 : f.kind = 3
  · rw [k3] at c0
    have HF : Hid (fb f = [f.n % 4294967296 % 256, f.n % 4294967296 / 256 % 256, f.n % 4294967296 / 65536 % 256, f.n % 4294967296 / 16777216]) := by show _ = _; unfold fb; rw [if_neg k1, if_neg k2, if_pos k3]
    clear hR2 k1 k2 k3
    go_enter Try.func25, Try.ntmps25
    go_wp2_with (go_at_call 40; refine (refFour_any S0 (f.n % 4294967296) (by omega) (by omega)).mono ?_; unfold GivesB; rintro e w1 ⟨ao1, cap1, rfl, S1⟩)
    go_ret
    unfold GivesB
    rw [HF.out]
    exact ⟨_, cap1, rfl, (S1.sel [1]).tail⟩
  by_cases k4 : f.kind = 4
  · rw [k4] at c0
    have HF : Hid (fb f = num f.n) := by show _ = _; unfold fb; rw [if_neg k1, if_neg k2, if_neg k3, if_pos k4]
    clear hR2 k1 k2 k3 k4
    go_enter Try.func25, Try.ntmps25
    go_wp2_with (go_at_call 18; refine (refNum_any S0 f.n hn.1 hn.2).mono ?_; unfold GivesB; rintro e w1 ⟨ao1, cap1, rfl, S1⟩)
    go_ret
    unfold GivesB
    rw [HF.out]
    exact ⟨_, cap1, rfl, (S1.sel [1]).tail⟩
  by_cases k5 : f.kind = 5
  · rw [k5] at c0
    have HF : Hid (fb f = num f.bs.length ++ f.bs) := by show _ = _; unfold fb; rw [if_neg k1, if_neg k2, if_neg k3, if_neg k4, if_pos k5]
    clear k1 k2 k3 k4 k5
    go_enter Try.func25, Try.ntmps25
    go_wp2_with (go_at_call 41; refine (refBytes_any S0 hR2 hbl (by omega)).mono ?_; unfold GivesB; rintro e w1 ⟨ao1, cap1, rfl, S1⟩)
    go_ret
    unfold GivesB
    rw [HF.out]
    exact ⟨_, cap1, by rw [List.length_append, hbl]; rfl, (S1.sel [1]).tail⟩
  have HF : Hid (fb f = f.h) := by show _ = _; unfold fb; rw [if_neg k1, if_neg k2, if_neg k3, if_neg k4, if_neg k5]
  have n1 : (f.kind == 1) = false := by simpa using k1
  have n2 : (f.kind == 2) = false := by simpa using k2
  have n3 : (f.kind == 3) = false := by simpa using k3
  have n4 : (f.kind == 4) = false := by simpa using k4
  have n5 : (f.kind == 5) = false := by simpa using k5
  have hh := hf.h
  obtain ⟨i0, hi, hz0, hz1, hz2⟩ := info_parts Try.infoB
  have S1 := Sat.sbs_new (cap := 0) (bs := []) (post := []) (S0.alloc (bv []) 5) rfl (Nat.le_refl _) (by unfold maxLen; omega) (by simp)
  have hR4 : Rd ((w.alloc (.cells cs.toArray 44)).alloc (.cells #[] 5)) (some ⟨w.heap.size, 3, none⟩) (bv f.h) := hR3.grow fun k hk => Below.heap_alloc _ _ k hk
  simp only [World.size_alloc, List.length_nil] at S1
  clear hR2 hR3 k1 k2 k3 k4 k5
  go_enter Try.func25, Try.ntmps25
  go_wp2_with (at_builtin; refine wpList_append_sat rfl (.tmp 33) (.tmp 35) _ rfl 5 i0 (.int .u8 0) 1 1 Try.underlying22 hi hz0 hz1 hz2 rfl (by decide) S1 rfl rfl hR4 (by simp [bv_length, hh]) (bv_one _) (by unfold maxLen; omega) (by omega) ?_; intro ao1 cap1 w1 S2; simp only [Nat.zero_add, List.nil_append] at S2)
  go_ret
  unfold GivesB
  rw [HF.out, hh]
  exact ⟨_, cap1, rfl, (S2.sel [1]).tail⟩
end Go.Proofs.Ytbkieoblhacngaa
