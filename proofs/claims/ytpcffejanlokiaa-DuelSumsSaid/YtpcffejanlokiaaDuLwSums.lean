/-
  The law DuelSums, walked.
-/
import Derived.Test.YtpcffejanlokiaaDu8
namespace Go.Proofs.Ytpcffejanlokiaa
open Go.RowKit Go.Sep Go.Vm
set_option linter.unusedSimpArgs false

set_option maxRecDepth 100000 in
set_option maxHeartbeats 6400000 in
theorem DuelSums_walk {w : World} {b : Option Addr} {m d : Nat} {ps : List (Int × Int)} (hRb : Rd w b (pairsv ps)) (hm : ps.length = m) (hmm : m ≤ maxLen) (hpb : ∀ x ∈ ps, (0 ≤ x.1 ∧ x.1 < 65536) ∧ (0 ≤ x.2 ∧ x.2 < 65536)) (lim : Int) :
    Calls Try.prog 5 #[.slice b m d, .int .i64 lim] w fun e w' => e = .returned (.bool true) ∧ Below w.heap.size w w' := by
  have S0 := Sat.start w
  have HM := Lib.hid hm
  have HRB := Lib.hid (fun (L : List Asn) (w' : World) (h : Sat w w' L) => hRb.below h.below)
  have HPB := Lib.hid hpb
  clear hm hRb hpb
  by_cases hbig : 100 < m
  · go_enter Try.func5, Try.ntmps5
    go_wp2_with fail
    go_ret
    exact ⟨rfl, S0.below⟩
  by_cases hb1 : lim < 1
  · go_enter Try.func5, Try.ntmps5
    go_wp2_with fail
    go_ret
    exact ⟨rfl, S0.below⟩
  by_cases hb2 : 200 < lim
  · go_enter Try.func5, Try.ntmps5
    go_wp2_with fail
    go_ret
    exact ⟨rfl, S0.below⟩
  obtain ⟨limit, rfl⟩ : ∃ limit : Nat, lim = (limit : Int) := ⟨lim.toNat, by omega⟩
  have hl : 1 ≤ limit ∧ limit ≤ 200 := by omega
  have hm100 : m ≤ 100 := by omega
  clear hbig hb1 hb2
  have hck := acheck (limit := (limit : Int)) (by omega)
  have hpl := playP_fold (code := acode) (cap := (limit : Int)) (fuel := 9) (seed := 1) (ps := ps) hck
  have hgt := foldP_goes hck ps _ (goes_start (seed := 1) hck (by omega)) HPB.out
  have haf := afold hl ps 0 0 (by omega) (by omega) (by have := HM.out; omega) HPB.out
  have hs0 : ast ((0 : Nat) : Int) 0 = VS.start 1 := by decide +kernel
  rw [hs0] at haf
  obtain ⟨A, hA⟩ : ∃ A, foldP acode limit 9 (VS.start 1) ps = A := ⟨_, rfl⟩
  rw [hA] at hpl hgt haf
  rw [HM.out, Nat.zero_add, Nat.sub_zero, Int.zero_add] at haf
  have HPL := Lib.hid hpl
  have HAOK : Hid A.Ok := hgt.ok
  have HAL := Lib.hid (svals_length hgt.ok.len)
  have HAF := Lib.hid haf
  clear hpl hgt haf hA hck hs0
  go_enter Try.func5, Try.ntmps5
  go_wp2_with (first
    | (go_at_call 16; refine (adder_any S0 limit).mono ?_; rintro e w2 ⟨g, rfl, S2⟩)
    | (go_at_call 11; refine (play_any (n := 4) (code := acode) (ps := ps) S2 (fun w' h => Rd.lit (h.block 0 rfl).1) rfl (by unfold maxLen; omega) limit 9 1 (by omega) (fun w' h => HRB.out _ _ h) HM.out (by omega) HPB.out).mono ?_; unfold Stepped; rw [HPL.out]; rintro e w4 ⟨rfl, S4⟩; have S5 := S4.alloc [.int .i64 0, .int .i32 0, .int .i32 0, .int .i32 0, .int .i32 0, .int .i32 0, .int .i32 0, .int .i32 0, .int .i32 0, .int .i32 0, .int .i32 0, .int .i32 0, .int .i32 0, .int .i32 0, .int .i32 0, .int .i32 0, .int .i32 0, .int .u32 0, .bool false, .int .i64 0] 31)
    | (refine wpList_store_sat (off := 0) (n := 20) rfl 31 _ _ rfl S5 rfl rfl HAL.out (by decide) Try.sizeS (svals_one A) ?_; intro w6 S6; rw [zstore] at S6))
  have S7 : Sat w w6 (blk w4.heap.size (svals A) 31 :: blk g (insv acode) 68 :: []) := S6
  generalize w4.heap.size = qa at S7 ⊢
  clear S0 S2 S4 S5 S6
  go_loopw [7, 8, 9] (fun sv nv i wr => ∃ (k : Nat) (sum : Int), k ≤ m ∧ k ≤ limit ∧ sv = .int .i32 sum ∧ nv = .int .i64 k ∧ i = .int .i64 k ∧ Hid (sum = tot (ps.take k)) ∧ Sat w wr (blk qa (svals A) 31 :: blk g (insv acode) 68 :: [])) (fun _ _ i _ => m - (intOf i).toNat)
  case atStart => exact ⟨0, 0, by omega, by omega, rfl, rfl, rfl, rfl, S7⟩
  case round =>
    clear S7
    obtain ⟨k, sum, hk, hkl, rfl, rfl, rfl, HS, S8⟩ := hrel
    have k0 : (0 : Int) ≤ (k : Int) := Int.natCast_nonneg _
    by_cases hlt : k < m ∧ k < limit
    · have k1 : (k : Int) < (m : Int) := by omega
      have k2 : (k : Int) < (limit : Int) := by omega
      obtain ⟨x, hx⟩ : ∃ x, ps[k]? = some x := ⟨ps[k]'(by rw [HM.out]; exact hlt.1), List.getElem?_eq_getElem _⟩
      have hpx := HPB.out x (List.mem_of_getElem? hx)
      have hbd := tot_bound (ps.take k) (fun y hy => HPB.out y (List.mem_of_mem_take hy))
      rw [← HS.out, List.length_take, HM.out] at hbd
      have HS2 := Lib.hid ((tot_take hx).trans (by rw [← HS.out]))
      obtain ⟨bb, off, rfl, p0, p1⟩ := pairsv_cells (HRB.out _ _ S8) hx
      obtain ⟨i0, i1⟩ := x
      have hpx0 : 0 ≤ i0 ∧ i0 < 65536 := hpx.1
      have hs0 : 0 ≤ sum := hbd.1
      have hs1 : sum ≤ 7000000 := by omega
      clear hbd hpx hx
      go_wp2_with fail
      exact ⟨⟨k + 1, sum + i0, by omega, by omega, rfl, rfl, rfl, HS2.out.symm, S8⟩, by simp [intOf]; omega⟩
    · have hmin : min m limit = k := by omega
      have h1 := HAF.out.1
      have h2 := HAF.out.2.1
      have h3 := HAF.out.2.2
      rw [hmin] at h2 h3
      have htk : ps.take limit = ps.take k := by
        by_cases hkm : k = limit
        · rw [hkm]
        · rw [List.take_of_length_le (by rw [HM.out]; omega), List.take_of_length_le (by rw [HM.out]; omega)]
      rw [htk, ← HS.out] at h1
      have hst := st_at HAOK.out.len S8
      have c0 := hst.frame
      have c1 := hst.cells 0 (by omega)
      have c18 := hst.over
      rw [h2] at c0
      rw [h1] at c1
      rw [h3] at c18
      clear hst h1 h2 h3 htk
      by_cases hkl2 : k = limit
      · subst hkl2
        rw [decide_eq_true rfl] at c18
        go_wp2_with (first
          | (go_at_call 13; refine (dknown_any S8).mono ?_; rintro e w9 ⟨rfl, S9⟩))
        all_goals
          go_ret
          exact ⟨rfl, S9.below⟩
      · have hkm : k = m := by omega
        subst hkm
        have hne : ((k : Int) == (limit : Int)) = false := by simp; omega
        rw [decide_eq_false hkl2] at c18
        go_wp2_with (first
          | (go_at_call 13; refine (dknown_any S8).mono ?_; rintro e w9 ⟨rfl, S9⟩))
        all_goals
          go_ret
          exact ⟨rfl, S9.below⟩
end Go.Proofs.Ytpcffejanlokiaa
