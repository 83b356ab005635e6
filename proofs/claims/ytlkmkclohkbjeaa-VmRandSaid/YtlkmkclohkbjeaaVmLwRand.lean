/-
  The law VmRand, walked.
-/
import Derived.Test.YtlkmkclohkbjeaaVmK
import Derived.Test.YtlkmkclohkbjeaaVmF
namespace Go.Proofs.Ytlkmkclohkbjeaa
open Go.RowKit Go.Sep Go.Vm

theorem and_u32_65535 {x : Int} (h0 : 0 ≤ x) (h1 : x < 4294967296) : bits .and .u32 x 65535 = x % 65536 := by
  rw [u32_and _ _ h0 h1 (by omega) (by omega)]
  obtain ⟨n, rfl⟩ := Int.eq_ofNat_of_zero_le h0
  rw [Int.toNat_natCast, show (65535 : Int).toNat = 2 ^ 16 - 1 from rfl, Nat.and_two_pow_sub_one_eq_mod]
  simp
theorem isP_run {s : VS} (h0 : 0 ≤ s.frame) (h1 : s.frame ≤ 600) (ho : s.over = false) (hw : s.winner = 0) : isP s = true := by
  unfold isP
  rw [ho, hw]
  simp
  omega
theorem three_at {W0 w : World} {L : List Asn} {p : Nat} {a b c : Value} {e : TypeId} (S : Sat W0 w (blk p [a, b, c] e :: L)) : w.cell? ⟨p, 0, none⟩ = some a ∧ w.cell? ⟨p, 1, none⟩ = some b ∧ w.cell? ⟨p, 2, none⟩ = some c := gat S

structure Runs (s : VS) (k : Nat) : Prop where
  ok : s.Ok
  frame : s.frame = k
  over : s.over = false
  winner : s.winner = 0
  seed : s.seed ≠ 0

theorem nextSeed_ne {x : Int} (hx : 0 ≤ x ∧ x < 4294967296) (h : x ≠ 0) : nextSeed x ≠ 0 := by
  have z : ∀ {a b : Int}, 0 ≤ a ∧ a < 4294967296 → 0 ≤ b ∧ b < 4294967296 → bits .xor .u32 a b = 0 → a = b := by
    intro a b ha hb h0
    rw [u32_xor _ _ ha.1 ha.2 hb.1 hb.2] at h0
    have h1 : a.toNat ^^^ b.toNat = 0 := by omega
    have h2 : a.toNat = b.toNat := by
      have h3 : (a.toNat ^^^ b.toNat) ^^^ b.toNat = 0 ^^^ b.toNat := by rw [h1]
      rwa [Nat.xor_assoc, Nat.xor_self, Nat.xor_zero, Nat.zero_xor] at h3
    omega
  have h1 : xs13 x ≠ 0 := by
    intro h0
    have := z hx (by omega) h0
    omega
  have c1 : 0 ≤ xs13 x ∧ xs13 x < 4294967296 := xor32_bd hx (by omega)
  have h2 : xs17 (xs13 x) ≠ 0 := by
    intro h0
    have := z c1 (by omega) h0
    omega
  have c2 : 0 ≤ xs17 (xs13 x) ∧ xs17 (xs13 x) < 4294967296 := xor32_bd c1 (by omega)
  intro h0
  have := z c2 (by omega) h0
  omega

set_option maxRecDepth 100000 in
set_option maxHeartbeats 3200000 in
theorem VmRand_walk {w : World} (seed n : Int) (hs : 0 ≤ seed ∧ seed < 4294967296) :
    Calls Try.prog 9 #[.int .u32 seed, .int .i64 n] w fun e w' => e = .returned (.bool true) ∧ Below w.heap.size w w' := by
  have S0 := Sat.start w
  by_cases hn1 : n < 1
  · go_enter Try.func9, Try.ntmps9
    go_wp2_with (go_at_call 19; refine (vknown_any S0).mono ?_; rintro e w6 ⟨rfl, S6⟩)
    go_ret
    exact ⟨rfl, S6.below⟩
  by_cases hn2 : 60 < n
  · go_enter Try.func9, Try.ntmps9
    go_wp2_with (go_at_call 19; refine (vknown_any S0).mono ?_; rintro e w6 ⟨rfl, S6⟩)
    go_ret
    exact ⟨rfl, S6.below⟩
  obtain ⟨N, rfl⟩ : ∃ N : Nat, n = (N : Int) := ⟨n.toNat, by omega⟩
  have hN1 : 1 ≤ N := by omega
  have hN2 : N ≤ 60 := by omega
  have S1 : Sat w (w.alloc (.cells #[.int .i64 21, .int .i64 0, .int .i64 3, .int .i64 4] 45)) (blk w.heap.size (insv rcode) 45 :: []) := S0.alloc (insv rcode) _
  have S2 := S1.alloc [.slice (some ⟨w.heap.size, 0, none⟩) 2 2, .int .i64 100, .int .i64 9] 24
  simp only [World.size_alloc] at S2
  have hR0 : Runs (VS.start seed) 0 := ⟨start_ok hs, rfl, rfl, rfl, by show max 1 seed ≠ 0; omega⟩
  have hsd : (VS.start seed).seed = max 1 seed := rfl
  obtain ⟨s0, hs0⟩ : ∃ s0, VS.start seed = s0 := ⟨_, rfl⟩
  rw [hs0] at hR0 hsd
  have HS0 := Lib.hid hs0
  have HL0 := Lib.hid (svals_length hR0.ok.len)
  have hcase : (seed = 0 ∧ s0.seed = 1) ∨ (seed ≠ 0 ∧ s0.seed = seed) := by omega
  clear hs0 hsd
  rcases hcase with ⟨hz, hsd⟩ | ⟨hz, hsd⟩
  all_goals
    first
      | (have hz' : (seed == 0) = true := by simpa using hz)
      | (have hz' : (seed == 0) = false := by simpa using hz)
    have HSD := Lib.hid hsd
    have HZ := Lib.hid hz
    clear hz hsd
    go_enter Try.func9, Try.ntmps9
    go_wp2_with (first
      | (refine wpList_store_sat (off := 0) (n := 20) rfl 28 _ _ rfl S4 rfl rfl HL0.out (by decide) Try.sizeS (svals_one s0) ?_; intro w5 S5; rw [zstore] at S5)
      | (go_at_call 20; refine (vStart_any S2 seed hs).mono ?_; unfold StartsAt; rintro e w3 ⟨rfl, S3⟩; rw [HS0.out]; have S4 := S3.alloc [.int .i64 0, .int .i32 0, .int .i32 0, .int .i32 0, .int .i32 0, .int .i32 0, .int .i32 0, .int .i32 0, .int .i32 0, .int .i32 0, .int .i32 0, .int .i32 0, .int .i32 0, .int .i32 0, .int .i32 0, .int .i32 0, .int .i32 0, .int .u32 0, .bool false, .int .i64 0] 28))
    generalize w3.heap.size = ps at S5 ⊢
    generalize w.heap.size = pc at S5 ⊢
    clear S2 S1 S3 S4
    have hx0 := HSD.out
    go_loopw [7, 8] (fun x i wr => ∃ (k : Nat) (s : VS), k ≤ N ∧ i = .int .i64 k ∧ x = .int .u32 s.seed ∧ Runs s k ∧ Sat w wr (blk ps (svals s) 28 :: blk (pc + 1) [.slice (some ⟨pc, 0, none⟩) 2 2, .int .i64 100, .int .i64 9] 24 :: blk pc (insv rcode) 45 :: [])) (fun _ i _ => N - (intOf i).toNat)
    case atStart =>
      refine ⟨0, s0, by omega, rfl, ?_, hR0, S5⟩
      first
        | (rw [hx0])
        | (rw [hx0]; rfl)
    case round =>
      clear S5 hR0 hx0 HSD HL0 HS0
      obtain ⟨k, s, hk, rfl, rfl, hR, S6⟩ := hrel
      by_cases hlt : k < N
      · have hso := hR.ok
        obtain ⟨x1, hx1⟩ : ∃ x1, bits .xor .u32 s.seed (s.seed * 8192 % 4294967296) = x1 := ⟨_, rfl⟩
        obtain ⟨x2, hx2⟩ : ∃ x2, bits .xor .u32 x1 (x1 / 131072) = x2 := ⟨_, rfl⟩
        obtain ⟨x3, hx3⟩ : ∃ x3, bits .xor .u32 x2 (x2 * 32 % 4294967296) = x3 := ⟨_, rfl⟩
        have b0 := hso.seed
        have b1 : 0 ≤ x1 ∧ x1 < 4294967296 := by rw [← hx1]; exact xor32_bd b0 (by omega)
        have b2 : 0 ≤ x2 ∧ x2 < 4294967296 := by rw [← hx2]; exact xor32_bd b1 (by omega)
        have b3 : 0 ≤ x3 ∧ x3 < 4294967296 := by rw [← hx3]; exact xor32_bd b2 (by omega)
        have hn : nextSeed s.seed = x3 := by unfold nextSeed xs13 xs17 xs5; rw [hx1, hx2, hx3]
        have hx4 := and_u32_65535 b3.1 b3.2
        have hne : x3 ≠ 0 := by rw [← hn]; exact nextSeed_ne b0 hR.seed
        have hfr := hR.frame
        have hst := rstep (s := s) (isP_run (by omega) (by omega) hR.over hR.winner) hR.seed hR.over (by omega)
        rw [hn] at hst
        obtain ⟨t, ht⟩ : ∃ t : VS, t = { s with frame := s.frame + 1, seed := x3, cells := s.cells.set 4 (x3 % 65536) } := ⟨_, rfl⟩
        rw [← ht] at hst
        have hto : t.Ok := by
          rw [ht]
          exact ⟨by simp [hso.len], fun c hc => by
            rcases List.mem_or_eq_of_mem_set hc with hc | rfl
            · exact hso.cells c hc
            · omega, by show -9223372036854775808 ≤ s.frame + 1 ∧ s.frame + 1 < 9223372036854775808; omega, b3, hso.winner⟩
        have hR2 : Runs t (k + 1) := ⟨hto, by rw [ht]; show s.frame + 1 = ((k + 1 : Nat) : Int); omega, by rw [ht]; exact hR.over, by rw [ht]; exact hR.winner, by rw [ht]; exact hne⟩
        have ht17 : (svals t)[17]? = some (.int .u32 x3) := (svals_tail hto.len 0).trans (by rw [ht]; rfl)
        have ht5 : (svals t)[5]? = some (.int .i32 (x3 % 65536)) := by
          refine (svals_cell hto.len (k := 4) (by omega)).trans ?_
          rw [ht]
          simp only
          rw [List.getElem?_set_self (by rw [hso.len]; omega)]
          rfl
        have htsd : t.seed = x3 := by rw [ht]
        have HST := Lib.hid hst
        have HTL := Lib.hid (svals_length hto.len)
        have HSL := Lib.hid (svals_length hso.len)
        have HT17 := Lib.hid ht17
        have HT5 := Lib.hid ht5
        have HTS := Lib.hid htsd
        have hbk : (svals s).take 0 ++ svals t ++ (svals s).drop (0 + 20) = svals t := by
          rw [List.take_zero, List.nil_append, List.drop_of_length_le (by rw [HSL.out]; omega), List.append_nil]
        have HBK := Lib.hid hbk
        clear hn hst ht ht17 ht5 htsd hbk hne hfr
        obtain ⟨g0, g1, g2⟩ := gat S6.tail
        go_wp2_with (first
          | (refine wpList_store_sat (off := 0) (n := 20) rfl 28 _ _ rfl (S9.sel [1]) rfl rfl HTL.out (by rw [HSL.out]; omega) Try.sizeS (svals_one t) ?_; intro w10 S10; rw [HBK.out] at S10)
          | (refine wpList_load_part rfl 28 _ rfl (n := 20) rfl (S9.part 0 20) (by rw [List.length_take, List.length_drop, HTL.out]; rfl) Try.underlying28 rfl Try.sizeS ?_; rw [List.drop_zero, List.take_of_length_le (by rw [HTL.out]; omega)])
          | (refine wpList_store_sat (off := 0) (n := 20) rfl 28 _ _ rfl S8 rfl rfl HTL.out (by decide) Try.sizeS (svals_one t) ?_; intro w9 S9; rw [zstore] at S9; have e17 : w9.cell? ⟨w7.heap.size, 17, none⟩ = some (.int .u32 x3) := (S9.cell 0 rfl 17).trans HT17.out; have e5 : w9.cell? ⟨w7.heap.size, 5, none⟩ = some (.int .i32 (x3 % 65536)) := (S9.cell 0 rfl 5).trans HT5.out)
          | (refine wpList_load_part rfl 28 _ rfl (n := 20) rfl (S6.part 0 20) (by rw [List.length_take, List.length_drop, HSL.out]; rfl) Try.underlying28 rfl Try.sizeS ?_; rw [List.drop_zero, List.take_of_length_le (by rw [HSL.out]; omega)])
          | (go_at_call 15; refine (vStep_any (code := rcode) (n := 2) S6 (fun w' h => Rd.lit (h.block 2 rfl).1) rfl (by unfold maxLen; omega) 100 9 hso 0 0 (by omega) (by omega)).mono ?_; unfold Stepped; rintro e w7 ⟨rfl, S7⟩; rw [HST.out]; have S8 := S7.alloc [.int .i64 0, .int .i32 0, .int .i32 0, .int .i32 0, .int .i32 0, .int .i32 0, .int .i32 0, .int .i32 0, .int .i32 0, .int .i32 0, .int .i32 0, .int .i32 0, .int .i32 0, .int .i32 0, .int .i32 0, .int .i32 0, .int .i32 0, .int .u32 0, .bool false, .int .i64 0] 28))
        go_roundw
        case rel => exact ⟨k + 1, t, by omega, by go_num, by rw [HTS.out], hR2, (S10.sel [1]).tail⟩
        case measure => simp [intOf]; omega
      · go_wp2_with (go_at_call 19; refine (vknown_any S6).mono ?_; rintro e w6 ⟨rfl, S7⟩)
        go_ret
        exact ⟨rfl, S7.below⟩
end Go.Proofs.Ytlkmkclohkbjeaa
