/-
  link: packet.
-/
import Derived.Test.YtdgalljalcediaaLiM
import Derived.Test.YtdgalljalcediaaIdx
import Derived.Test.YtdgalljalcediaaFr2
import Derived.Test.YtdgalljalcediaaFOctS
import Derived.Test.YtdgalljalcediaaFOct4
import Derived.Deep.QuietTactic
import Derived.BigQuiet
namespace Go.Proofs.Ytdgalljalcediaa
open Go.RowKit Go.Sep Go.Oct
set_option linter.unusedSimpArgs false

theorem Try.infoI : (Try.prog.info? 3).map (fun i => (i.zero, i.size, i.bytes)) = some (some (.int .i64 0), 1, 8) := by kernel_rfl
def lkc (id : Int) (sl : Value) (first under came waited sent vain : Int) : List Value := [.int .i64 id, sl, .int .i64 first, .int .i64 under, .int .i64 came, .int .i64 waited, .int .i64 sent, .int .i64 vain]
def LK (g : Nat) (id : Int) (sl : Value) (first under came waited sent vain : Int) : Asn := blk g (lkc id sl first under came waited sent vain) 71
def Packed (W0 : World) (L : List Asn) (p : List Int) (e : Ending) (w' : World) : Prop := ∃ ao cap, e = .returned (.slice ao p.length cap) ∧ Sat W0 w' (sbs ao p.length cap p :: L)

set_option maxRecDepth 100000 in
set_option maxHeartbeats 6400000 in
theorem packet_any {W0 w : World} {L : List Asn} {g : Nat} {id first under came waited sent vain : Int} {sl : Value} (S : Sat W0 w (LK g id sl first under came waited sent vain :: L)) (n : Int) {a : Option Addr} {m c : Nat} {r : List Int}
    (hR : ∀ w', Sat W0 w' L → Rd w' a (bv r)) (hm : r.length = m) (hB : Bytes r) (hid : I64 id) (hn : I64 n) (hca : I64 came) (hse : 0 ≤ sent ∧ sent ≤ 1000000000000000) (hrl : m ≤ 10000) {wt : Int} (hwt : (if 0 < n then 0 else waited) = wt) :
    Calls Try.prog 31 #[.pointer (some ⟨g, 0, none⟩), .int .i64 n, .slice a m c] w
      (Packed W0 (LK g id sl first under came wt (sent + 1) vain :: L) (packP id n came r)) := by
  have HWT := Lib.hid hwt
  clear hwt
  have S0 : Sat W0 w (blk g [.int .i64 id, sl, .int .i64 first, .int .i64 under, .int .i64 came, .int .i64 waited, .int .i64 sent, .int .i64 vain] 71 :: L) := S
  have S1 := writer_new S0
  have c0 := S1.cell 1 rfl 0
  have c4 := S1.cell 1 rfl 4
  simp only [List.getElem?_cons_zero, List.getElem?_cons_succ] at c0 c4
  have hb1 := num_length id
  have hb2 := num_length n
  have hb3 := num_length came
  have hb4 := num_length r.length
  obtain ⟨j0, hj, jz0, jz1, jz2⟩ := info_parts Try.infoI
  have i0 : ∀ wr, (Instr.index 96 (.agg #[.int .i64 id, .int .i64 n, .int .i64 came]) (.int .i64 0)).run Try.prog wr = .ok (.int .i64 id) wr := fun wr => run_index_array wr (i := 0) Try.underlying96 (by decide) hj (by kernel_rfl) (by kernel_rfl) rfl
  have i1 : ∀ wr, (Instr.index 96 (.agg #[.int .i64 id, .int .i64 n, .int .i64 came]) (.int .i64 1)).run Try.prog wr = .ok (.int .i64 n) wr := fun wr => run_index_array wr (i := 1) Try.underlying96 (by decide) hj (by kernel_rfl) (by kernel_rfl) rfl
  have i2 : ∀ wr, (Instr.index 96 (.agg #[.int .i64 id, .int .i64 n, .int .i64 came]) (.int .i64 2)).run Try.prog wr = .ok (.int .i64 came) wr := fun wr => run_index_array wr (i := 2) Try.underlying96 (by decide) hj (by kernel_rfl) (by kernel_rfl) rfl
  go_enter Try.func31, Try.ntmps31
  go_upto_region 2 with fail
  go_quiet (fail)
  have S2 := S1.drewN nq
  go_wp2_with fail
  go_loopw [22] (fun i wr => ∃ (k : Nat) (ys : List Int), k ≤ 3 ∧ i = .int .i64 k ∧ ys.length ≤ 10 * k ∧ Hid (ys = numsB ([id, n, came].take k)) ∧ Sat W0 wr (Wr w.heap.size ys :: blk g [.int .i64 id, sl, .int .i64 first, .int .i64 under, .int .i64 came, .int .i64 waited, .int .i64 sent, .int .i64 vain] 71 :: L)) (fun i _ => 3 - (intOf i).toNat)
  case atStart => exact ⟨0, [], by omega, rfl, by simp, (by show _ = _; rfl), S2⟩
  case round =>
    clear S2
    obtain ⟨k, ys, hk, rfl, hyl, HY, S4⟩ := hrel
    rcases k with _ | _ | _ | k
    · go_wp2_with (go_at_call 52; refine (wNum_any S4 id hid.1 hid.2 (by omega)).mono ?_; rintro e w6 ⟨rfl, S6⟩)
      refine ⟨⟨1, ys ++ num id, by omega, by go_num, by rw [List.length_append]; omega, ?_, S6⟩, by simp [intOf]⟩
      show _ = _
      rw [HY.out]
      simp [numsB]
    · go_wp2_with (go_at_call 52; refine (wNum_any S4 n hn.1 hn.2 (by omega)).mono ?_; rintro e w6 ⟨rfl, S6⟩)
      refine ⟨⟨2, ys ++ num n, by omega, by go_num, by rw [List.length_append]; omega, ?_, S6⟩, by simp [intOf]⟩
      show _ = _
      rw [HY.out]
      simp [numsB]
    · go_wp2_with (go_at_call 52; refine (wNum_any S4 came hca.1 hca.2 (by omega)).mono ?_; rintro e w6 ⟨rfl, S6⟩)
      refine ⟨⟨3, ys ++ num came, by omega, by go_num, by rw [List.length_append]; omega, ?_, S6⟩, by simp [intOf]⟩
      show _ = _
      rw [HY.out]
      simp [numsB]
    · obtain rfl : k = 0 := by omega
      have hys : ys = num id ++ num n ++ num came := by rw [HY.out]; simp [numsB]
      have HYS := Lib.hid hys
      clear hys HY
      have s6 := S4.cell 1 rfl 6
      have f6 := S4.frozen 1 rfl 6
      have f5 := S4.frozen 1 rfl 5
      simp only [List.getElem?_cons_zero, List.getElem?_cons_succ] at s6
      have hs1 : IntKind.i64.wrap (sent + 1) = sent + 1 := by rw [IntKind.wrap_i64]; omega
      by_cases h0 : 0 < n
      · have hw0 : wt = 0 := by rw [← HWT.out, if_pos h0]
        have hd : decide (0 < n) = true := decide_eq_true h0
        have HB : Hid (packB id n came r = ys ++ (num r.length ++ r)) := by show _ = _; unfold packB; rw [if_pos h0, HYS.out]
        clear h0
        have HBB : Hid (Bytes (ys ++ (num r.length ++ r))) := by
          show Bytes _
          rw [HYS.out]
          exact ((((num_bytes hid.1 hid.2).append (num_bytes hn.1 hn.2)).append (num_bytes hca.1 hca.2)).append ((num_bytes (by omega) (by omega)).append hB))
        have hzl : (ys ++ (num r.length ++ r)).length ≤ 20000 := by simp only [List.length_append]; omega
        obtain ⟨Z, hZ⟩ : ∃ Z, ys ++ (num r.length ++ r) = Z := ⟨_, rfl⟩
        rw [hZ] at HB HBB hzl
        have HZ := Lib.hid hZ
        clear hZ
        subst hw0
        go_wp2_with (first
          | (go_at_call 53; refine (wBytes_any S4 (fun w' h => hR w' h.tail) hm (by omega)).mono ?_; rintro e w7 ⟨rfl, S7⟩; rw [List.append_assoc, HZ.out] at S7; have t5 := S7.cell 1 rfl 5; have t6 := S7.cell 1 rfl 6; have u6 := S7.frozen 1 rfl 6; have u5 := S7.frozen 1 rfl 5; simp only [List.getElem?_cons_zero, List.getElem?_cons_succ] at t5 t6; have S8 := (S7.setCell (k := 5) (v := .int .i64 0) 1 rfl).setCell (k := 6) (v := .int .i64 (sent + 1)) 1 rfl)
          | (go_at_call 55; refine (out_any S8 (by omega)).mono ?_; rintro e w9 ⟨ao, cap, rfl, S9⟩)
          | (go_at_call 54; refine (fEncode_any (xs := Z) S9 (fun w' h => h.own_rd) rfl HBB.out (by omega)).mono ?_; rintro e w10 ⟨ao10, cap10, rfl, S10⟩))
        go_ret
        refine ⟨ao10, cap10, ?_, ?_⟩
        · unfold packP; rw [HB.out]; rfl
        · unfold packP
          rw [HB.out]
          generalize (encF Z).1 = Y at S10 ⊢
          have S11 := (S10.sel [1, 1]).tail.tail
          exact S11
      · have hw0 : wt = waited := by rw [← HWT.out, if_neg h0]
        have hd : decide (0 < n) = false := decide_eq_false h0
        have HB : Hid (packB id n came r = ys) := by show _ = _; unfold packB; rw [if_neg h0, HYS.out, List.append_nil]
        have HBB : Hid (Bytes ys) := by
          show Bytes _
          rw [HYS.out]
          exact (((num_bytes hid.1 hid.2).append (num_bytes hn.1 hn.2)).append (num_bytes hca.1 hca.2))
        clear h0
        subst hw0
        have hzl : ys.length ≤ 20000 := by omega
        have S8 := S4.setCell (k := 6) (v := .int .i64 (sent + 1)) 1 rfl
        go_wp2_with (first
          | (go_at_call 55; refine (out_any S8 (by omega)).mono ?_; rintro e w9 ⟨ao, cap, rfl, S9⟩)
          | (go_at_call 54; refine (fEncode_any (xs := ys) S9 (fun w' h => h.own_rd) rfl HBB.out (by omega)).mono ?_; rintro e w10 ⟨ao10, cap10, rfl, S10⟩))
        go_ret
        refine ⟨ao10, cap10, ?_, ?_⟩
        · unfold packP; rw [HB.out]; rfl
        · unfold packP
          rw [HB.out]
          generalize (encF ys).1 = Y at S10 ⊢
          have S11 := (S10.sel [1, 1]).tail.tail
          exact S11
end Go.Proofs.Ytdgalljalcediaa
