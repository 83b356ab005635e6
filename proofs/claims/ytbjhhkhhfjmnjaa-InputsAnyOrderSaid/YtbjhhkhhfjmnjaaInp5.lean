/-
  inputs: how much is known of both, and what.
-/
import Derived.Test.YtbjhhkhhfjmnjaaInp4
import Derived.Deep.RegionHeld3
namespace Go.Proofs.Ytbjhhkhhfjmnjaa
open Go.RowKit Go.Sep Go.Inp

set_option maxRecDepth 100000 in
theorem both_any {W0 w : World} {L : List Asn} {p : Nat} {q : PQ} (S : Sat W0 w (Qu p q :: L)) :
    Calls Try.prog 16 #[.pointer (some ⟨p, 0, none⟩)] w fun e w' => e = .returned (.int .i64 q.both) ∧ w = w' := by
  have h0 : Hid (q.known 0 = lead q.r0.kn) := by show _ = _; unfold PQ.known; rw [if_pos rfl]
  have h1 : Hid (q.known 1 = lead q.r1.kn) := by show _ = _; unfold PQ.known; rw [if_neg (by decide), if_pos rfl]
  by_cases hle : lead q.r0.kn ≤ lead q.r1.kn
  · have HB : Hid (q.both = lead q.r0.kn) := by show _ = _; unfold PQ.both; omega
    go_enter Try.func16, Try.ntmps16
    go_wp2_with (first | (go_at_call_of 14 (Value.int .i64 0); refine (known_any S 0).mono ?_; rintro e w1 ⟨rfl, rfl⟩; rw [h0.out]) | (go_at_call_of 14 (Value.int .i64 1); refine (known_any S 1).mono ?_; rintro e w1 ⟨rfl, rfl⟩; rw [h1.out]))
    go_ret
    exact ⟨by rw [HB.out]; rfl, rfl⟩
  · have HB : Hid (q.both = lead q.r1.kn) := by show _ = _; unfold PQ.both; omega
    go_enter Try.func16, Try.ntmps16
    go_wp2_with (first | (go_at_call_of 14 (Value.int .i64 0); refine (known_any S 0).mono ?_; rintro e w1 ⟨rfl, rfl⟩; rw [h0.out]) | (go_at_call_of 14 (Value.int .i64 1); refine (known_any S 1).mono ?_; rintro e w1 ⟨rfl, rfl⟩; rw [h1.out]))
    go_ret
    exact ⟨by rw [HB.out]; rfl, rfl⟩

/-- a row of pairs, as cells -/
def pv : List (Int × Int) → List Value
  | [] => []
  | x :: r => .int .u16 x.1 :: .int .u16 x.2 :: pv r
theorem pv_length (l : List (Int × Int)) : (pv l).length = l.length * 2 := by
  induction l with
  | nil => rfl
  | cons x r ih => simp only [pv, List.length_cons, ih]; omega
theorem pv_append (a b : List (Int × Int)) : pv (a ++ b) = pv a ++ pv b := by
  induction a with
  | nil => rfl
  | cons x r ih => simp only [List.cons_append, pv, ih]
theorem pv_one (l : List (Int × Int)) : ∀ u ∈ pv l, u.oneCell' = true := by
  induction l with
  | nil => intro u hu; simp [pv] at hu
  | cons x r ih =>
    intro u hu
    simp only [pv, List.mem_cons] at hu
    rcases hu with rfl | rfl | hu
    · rfl
    · rfl
    · exact ih u hu
def sps (ao : Option Addr) (n cap : Nat) (l : List (Int × Int)) : Asn := slc 48 2 ao n cap (pv l)
theorem Try.infoP : (Try.prog.info? 48).map (fun i => (i.zero, i.size, i.bytes)) = some (some (.agg #[.int .u16 0, .int .u16 0]), 2, 4) := by kernel_rfl

def GivesP (W0 : World) (L : List Asn) (l : List (Int × Int)) (e : Ending) (w' : World) : Prop := ∃ ao cap, e = .returned (.slice ao l.length cap) ∧ Sat W0 w' (sps ao l.length cap l :: L)

theorem pairs_snoc {q : PQ} {k : Nat} : ((List.range (k + 1)).map fun i => (inAt q.r0 i, inAt q.r1 i)) = ((List.range k).map fun i => (inAt q.r0 i, inAt q.r1 i)) ++ [(inAt q.r0 k, inAt q.r1 k)] := by
  rw [List.range_succ, List.map_append]; rfl

theorem four_cells {W0 w : World} {L : List Asn} {p : Nat} {q : PQ} {x : Nat × Nat × Nat × Nat} {k : Nat} (S2 : Sat W0 w (quL p q x ++ L)) (hq : q.ok) (hk : k < q.n) :
    w.cell? ⟨p, 0, none⟩ = some (.slice (some ⟨x.1, 0, none⟩) q.n q.n) ∧ w.cell? ⟨p, 3, none⟩ = some (.slice (some ⟨x.2.2.1, 0, none⟩) q.n q.n) ∧
      w.cell? ⟨x.1, k, none⟩ = some (.int .u16 (inAt q.r0 k)) ∧ w.cell? ⟨x.2.2.1, k, none⟩ = some (.int .u16 (inAt q.r1 k)) :=
  ⟨(row_cells (pre := []) (post := rowCells x.2.2.1 x.2.2.2 q.n (lead q.r1.kn)) (o := 0) S2 rfl).1,
   (row_cells (pre := rowCells x.1 x.2.1 q.n (lead q.r0.kn)) (post := []) (o := 3) (S2.sel [0, 2, 2]) rfl).1,
   in_cell (pre := []) (post := rowCells x.2.2.1 x.2.2.2 q.n (lead q.r1.kn)) S2 (k := k) (by rw [hq.2.1.1]; omega),
   in_cell (pre := rowCells x.1 x.2.1 q.n (lead q.r0.kn)) (post := []) (S2.sel [0, 2, 2]) (k := k) (by rw [hq.2.2.1]; omega)⟩

set_option maxRecDepth 100000 in
theorem pairs_any {W0 w : World} {L : List Asn} {p : Nat} {q : PQ} (S : Sat W0 w (Qu p q :: L)) (hq : q.ok) :
    Calls Try.prog 19 #[.pointer (some ⟨p, 0, none⟩)] w (GivesP W0 (Qu p q :: L) q.pairs) := by
  obtain ⟨i0, hi, hz0, hz1, hz2⟩ := info_parts Try.infoP
  have hb0 := lead_le q.r0.kn
  have hb1 := lead_le q.r1.kn
  rw [hq.2.1.2] at hb0
  rw [hq.2.2.2] at hb1
  have hbn : q.both ≤ q.n := by unfold PQ.both; omega
  have hn := hq.1
  clear hb0 hb1
  go_enter Try.func19, Try.ntmps19
  go_wp2_with (go_at_call 16; refine (both_any S).mono ?_; rintro e w1 ⟨rfl, rfl⟩)
  go_loopw [3, 7] (fun v i wr => ∃ k : Nat, ∃ ao cap, ∃ l : List (Int × Int), k ≤ q.both ∧ i = .int .i64 k ∧ v = .slice ao l.length cap ∧ l.length = k ∧ Sat W0 wr (sps ao l.length cap l :: Qu p q :: L) ∧ Hid (l = (List.range k).map fun i => (inAt q.r0 i, inAt q.r1 i))) (fun _ i _ => q.both - (intOf i).toNat)
  case atStart => exact ⟨0, none, 0, [], by omega, rfl, rfl, rfl, Sat.own_none.2 ⟨rfl, rfl, rfl, S⟩, rfl⟩
  case round =>
    obtain ⟨k, ao, cap, l, hk, rfl, rfl, hl, S1, HL⟩ := hrel
    by_cases hlt : k < q.both
    · have hkn : k < q.n := by omega
      have HX : ∃ x : Nat × Nat × Nat × Nat, Sat W0 wr (quL p q x ++ sps ao l.length cap l :: L) := Qu_open.1 S1.swap
      obtain ⟨⟨g0, h0, g1, h1⟩, S2⟩ := HX
      obtain ⟨c0, c3, ci, cj⟩ := four_cells S2 hq hkn
      have S5 : Sat W0 wr (sps ao l.length cap l :: quL p q (g0, h0, g1, h1) ++ L) := S2.bring 5
      clear S2 S1
      have S1 := S5
      clear S5
      have bl : l.length ≤ 600 := by omega
      have k0 : (0 : Int) ≤ (k : Int) := Int.natCast_nonneg _
      have k1 : (k : Int) < (q.n : Int) := by omega
      have HLL := Lib.hid hl
      clear hl
      go_wp2_with fail
      go_region_held3 (fun w' => w'.cell? ⟨p, 0, none⟩ = some (.slice (some ⟨g0, 0, none⟩) q.n q.n) ∧ w'.cell? ⟨p, 3, none⟩ = some (.slice (some ⟨g1, 0, none⟩) q.n q.n) ∧
          w'.cell? ⟨g0, k, none⟩ = some (.int .u16 (inAt q.r0 k)) ∧ w'.cell? ⟨g1, k, none⟩ = some (.int .u16 (inAt q.r1 k)))
        (first
          | go_keep
          | exact four_cells (x := (g0, h0, g1, h1)) (L := slc 48 2 ao' (l.length + 1) cap' (pv l ++ [.int .u16 (inAt q.r0 k), .int .u16 (inAt q.r1 k)]) :: L) (S3.sel [1, 1, 1, 1, 1]) hq hkn)
        ((refine step_append_sat rfl _ _ _ rfl 48 i0 _ 2 4 Try.underlying44 hi hz0 hz1 hz2 rfl (by decide) (((S1.alloc [.int .u16 (inAt q.r0 k), .int .u16 (inAt q.r1 k)] 48).tail).drew) rfl rfl (Rd.lit (heap_alloc_new wr _)) rfl (by simp [Value.oneCell']) (by unfold maxLen; omega) (by omega) ?_; intro ao' cap' w2 S3))
      go_wp2
      go_roundw
      case rel =>
        have e2 : pv (l ++ [(inAt q.r0 k, inAt q.r1 k)]) = pv l ++ [.int .u16 (inAt q.r0 k), .int .u16 (inAt q.r1 k)] := pv_append _ _
        have S4 : Sat W0 w2 (sps ao' (l ++ [(inAt q.r0 k, inAt q.r1 k)]).length cap' (l ++ [(inAt q.r0 k, inAt q.r1 k)]) :: quL p q (g0, h0, g1, h1) ++ L) := by
          unfold sps
          rw [e2, List.length_append]
          exact S3
        have S6 : Sat W0 w2 (quL p q (g0, h0, g1, h1) ++ sps ao' (l ++ [(inAt q.r0 k, inAt q.r1 k)]).length cap' (l ++ [(inAt q.r0 k, inAt q.r1 k)]) :: L) := S4.sel [1, 1, 1, 1, 1]
        refine ⟨k + 1, ao', cap', l ++ [(inAt q.r0 k, inAt q.r1 k)], by omega, rfl, by rw [List.length_append]; rfl, by rw [List.length_append, HLL.out]; rfl, Sat.swap (Qu_open.2 ⟨(g0, h0, g1, h1), S6⟩), ?_⟩
        · show l ++ _ = _
          rw [HL.out, pairs_snoc]
      case measure => simp [intOf]; omega
    · have hkb : k = q.both := by omega
      have bl : l.length ≤ 600 := by omega
      have HLL := Lib.hid hl
      clear hl
      go_wp2_with fail
      go_ret
      have e3 : l = q.pairs := by rw [HL.out, hkb]; rfl
      subst e3
      exact ⟨ao, cap, rfl, S1⟩
end Go.Proofs.Ytbjhhkhhfjmnjaa
