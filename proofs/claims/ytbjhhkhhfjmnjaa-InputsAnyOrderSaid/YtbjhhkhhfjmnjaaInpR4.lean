/-
  gauntletref12: the document's Queue: Both, Pairs; the law's pairs.
-/
import Derived.Test.YtbjhhkhhfjmnjaaInpR2
import Derived.Test.YtbjhhkhhfjmnjaaInp5
import Derived.Laws.StructEq
import Derived.ChangeKeysEq
namespace Go.Proofs.Ytbjhhkhhfjmnjaa
open Go.RowKit Go.Sep Go.Inp

set_option maxRecDepth 100000 in
theorem rboth_any {W0 w : World} {L : List Asn} {p : Nat} {q : PQ} (S : Sat W0 w (RQu p q :: L)) (hq : q.ok) :
    Calls Try.prog 17 #[.pointer (some ⟨p, 0, none⟩)] w fun e w' => e = .returned (.int .i64 q.both) ∧ w = w' := by
  have h0 : Hid (q.known 0 = lead q.r0.kn) := by show _ = _; unfold PQ.known; rw [if_pos rfl]
  have h1 : Hid (q.known 1 = lead q.r1.kn) := by show _ = _; unfold PQ.known; rw [if_neg (by decide), if_pos rfl]
  by_cases hle : lead q.r0.kn ≤ lead q.r1.kn
  · have HB : Hid (q.both = lead q.r0.kn) := by show _ = _; unfold PQ.both; omega
    go_enter Try.func17, Try.ntmps17
    go_wp2_with (first | (go_at_call_of 15 (Value.int .i64 0); refine (rknown_any S hq 0).mono ?_; rintro e w1 ⟨rfl, rfl⟩; rw [h0.out]) | (go_at_call_of 15 (Value.int .i64 1); refine (rknown_any S hq 1).mono ?_; rintro e w1 ⟨rfl, rfl⟩; rw [h1.out]))
    go_ret
    exact ⟨by rw [HB.out]; rfl, rfl⟩
  · have HB : Hid (q.both = lead q.r1.kn) := by show _ = _; unfold PQ.both; omega
    go_enter Try.func17, Try.ntmps17
    go_wp2_with (first | (go_at_call_of 15 (Value.int .i64 0); refine (rknown_any S hq 0).mono ?_; rintro e w1 ⟨rfl, rfl⟩; rw [h0.out]) | (go_at_call_of 15 (Value.int .i64 1); refine (rknown_any S hq 1).mono ?_; rintro e w1 ⟨rfl, rfl⟩; rw [h1.out]))
    go_ret
    exact ⟨by rw [HB.out]; rfl, rfl⟩

theorem rfour_cells {W0 w : World} {L : List Asn} {p : Nat} {q : PQ} {x : Nat × Nat × Nat × Nat} {k : Nat} (S2 : Sat W0 w (rquL p q x ++ L)) (hq : q.ok) (hk : k < q.n) :
    w.cell? ⟨p, 1, none⟩ = some (.slice (some ⟨x.1, 0, none⟩) q.n q.n) ∧ w.cell? ⟨p, 2, none⟩ = some (.slice (some ⟨x.2.2.1, 0, none⟩) q.n q.n) ∧
      w.cell? ⟨x.1, k, none⟩ = some (.int .u16 (inAt q.r0 k)) ∧ w.cell? ⟨x.2.2.1, k, none⟩ = some (.int .u16 (inAt q.r1 k)) :=
  ⟨(rr0 S2 hq).cI, (rr1 S2 hq).cI, (rr0 S2 hq).ins k hk, (rr1 S2 hq).ins k hk⟩

set_option maxRecDepth 100000 in
theorem rpairs_any {W0 w : World} {L : List Asn} {p : Nat} {q : PQ} (S : Sat W0 w (RQu p q :: L)) (hq : q.ok) :
    Calls Try.prog 20 #[.pointer (some ⟨p, 0, none⟩)] w (GivesP W0 (RQu p q :: L) q.pairs) := by
  obtain ⟨i0, hi, hz0, hz1, hz2⟩ := info_parts Try.infoP
  have hb0 := lead_le q.r0.kn
  have hb1 := lead_le q.r1.kn
  rw [hq.2.1.2] at hb0
  rw [hq.2.2.2] at hb1
  have hbn : q.both ≤ q.n := by unfold PQ.both; omega
  have hn := hq.1
  clear hb0 hb1
  go_enter Try.func20, Try.ntmps20
  go_wp2_with fail
  go_loopw [3, 4] (fun v i wr => ∃ k : Nat, ∃ ao cap, ∃ l : List (Int × Int), k ≤ q.both ∧ i = .int .i64 k ∧ v = .slice ao l.length cap ∧ l.length = k ∧ Sat W0 wr (sps ao l.length cap l :: RQu p q :: L) ∧ Hid (l = (List.range k).map fun i => (inAt q.r0 i, inAt q.r1 i))) (fun _ i _ => q.both - (intOf i).toNat)
  case atStart => exact ⟨0, none, 0, [], by omega, rfl, rfl, rfl, Sat.own_none.2 ⟨rfl, rfl, rfl, S⟩, rfl⟩
  case round =>
    obtain ⟨k, ao, cap, l, hk, rfl, rfl, hl, S1, HL⟩ := hrel
    have SQ : Sat W0 wr (RQu p q :: sps ao l.length cap l :: L) := S1.swap
    by_cases hlt : k < q.both
    · have hkn : k < q.n := by omega
      have HX : ∃ x : Nat × Nat × Nat × Nat, Sat W0 wr (rquL p q x ++ sps ao l.length cap l :: L) := RQu_open.1 S1.swap
      obtain ⟨⟨g0, h0, g1, h1⟩, S2⟩ := HX
      obtain ⟨c0, c3, ci, cj⟩ := rfour_cells S2 hq hkn
      have S5 : Sat W0 wr (sps ao l.length cap l :: rquL p q (g0, h0, g1, h1) ++ L) := S2.bring 5
      clear S2 S1
      have S1 := S5
      clear S5
      have bl : l.length ≤ 600 := by omega
      have k0 : (0 : Int) ≤ (k : Int) := Int.natCast_nonneg _
      have k1 : (k : Int) < (q.n : Int) := by omega
      have HLL := Lib.hid hl
      clear hl
      go_wp2_with (go_at_call 17; refine (rboth_any SQ hq).mono ?_; rintro e w1 ⟨rfl, rfl⟩)
      go_region_held3 (fun w' => w'.cell? ⟨p, 1, none⟩ = some (.slice (some ⟨g0, 0, none⟩) q.n q.n) ∧ w'.cell? ⟨p, 2, none⟩ = some (.slice (some ⟨g1, 0, none⟩) q.n q.n) ∧
          w'.cell? ⟨g0, k, none⟩ = some (.int .u16 (inAt q.r0 k)) ∧ w'.cell? ⟨g1, k, none⟩ = some (.int .u16 (inAt q.r1 k)))
        (first
          | go_keep
          | exact rfour_cells (x := (g0, h0, g1, h1)) (L := slc 48 2 ao' (l.length + 1) cap' (pv l ++ [.int .u16 (inAt q.r0 k), .int .u16 (inAt q.r1 k)]) :: L) (S3.sel [1, 1, 1, 1, 1]) hq hkn)
        ((refine step_append_sat rfl _ _ _ rfl 48 i0 _ 2 4 Try.underlying44 hi hz0 hz1 hz2 rfl (by decide) (((S1.alloc [.int .u16 (inAt q.r0 k), .int .u16 (inAt q.r1 k)] 48).tail).drew) rfl rfl (Rd.lit (heap_alloc_new wr _)) rfl (by simp [Value.oneCell']) (by unfold maxLen; omega) (by omega) ?_; intro ao' cap' w2 S3))
      go_wp2
      go_roundw
      case rel =>
        have e2 : pv (l ++ [(inAt q.r0 k, inAt q.r1 k)]) = pv l ++ [.int .u16 (inAt q.r0 k), .int .u16 (inAt q.r1 k)] := pv_append _ _
        have S4 : Sat W0 w2 (sps ao' (l ++ [(inAt q.r0 k, inAt q.r1 k)]).length cap' (l ++ [(inAt q.r0 k, inAt q.r1 k)]) :: rquL p q (g0, h0, g1, h1) ++ L) := by
          unfold sps
          rw [e2, List.length_append]
          exact S3
        have S6 : Sat W0 w2 (rquL p q (g0, h0, g1, h1) ++ sps ao' (l ++ [(inAt q.r0 k, inAt q.r1 k)]).length cap' (l ++ [(inAt q.r0 k, inAt q.r1 k)]) :: L) := S4.sel [1, 1, 1, 1, 1]
        refine ⟨k + 1, ao', cap', l ++ [(inAt q.r0 k, inAt q.r1 k)], by omega, rfl, by rw [List.length_append]; rfl, by rw [List.length_append, HLL.out]; rfl, Sat.swap (RQu_open.2 ⟨(g0, h0, g1, h1), S6⟩), ?_⟩
        · show l ++ _ = _
          rw [HL.out, pairs_snoc]
      case measure => simp [intOf]; omega
    · have hkb : k = q.both := by omega
      have bl : l.length ≤ 600 := by omega
      have HLL := Lib.hid hl
      clear hl
      have e3 : l = q.pairs := by rw [HL.out, hkb]; rfl
      subst e3
      have HKB := Lib.hid hkb
      clear hkb
      go_wp2_with (go_at_call 17; refine (rboth_any SQ hq).mono ?_; rintro e w1 ⟨rfl, rfl⟩)
      go_ret
      exact ⟨ao, cap, rfl, S1⟩

theorem pv_at : ∀ {l : List (Int × Int)} {k : Nat} {x : Int × Int}, l[k]? = some x → (pv l)[k * 2]? = some (.int .u16 x.1) ∧ (pv l)[k * 2 + 1]? = some (.int .u16 x.2)
  | [], k, x, h => by simp at h
  | y :: r, 0, x, h => by simp at h; subst h; exact ⟨rfl, rfl⟩
  | y :: r, k + 1, x, h => by
    have ih := pv_at (l := r) (k := k) (x := x) (by simpa using h)
    rw [show (k + 1) * 2 = k * 2 + 1 + 1 by omega]
    exact ih

theorem Try.noGuardP : Try.prog.eqGuardType Try.prog.depth 48 = false := by kernel_rfl
theorem neq_pair (w : World) (a b : Int) : (binOp .neq 48 (.agg #[.int .u16 a, .int .u16 b]) (.agg #[.int .u16 a, .int .u16 b])).run Try.prog w = .ok (.bool false) w := by
  obtain ⟨iu, hi, _, _, _⟩ := info_parts Try.infoU
  have hc : Try.prog.cellsOf 29 = 1 := by kernel_rfl
  have hu := Try.underlying29
  have hf : (Op.eqItems 9999 29 1 #[.int .u16 a, .int .u16 b] #[.int .u16 a, .int .u16 b] [0, 1]).run Try.prog w = .ok true w := by
    simp [Op.eqItems, go_sem, hu]
  rw [run_neq_struct, run_equalIn_array w 9999 _ _ Try.underlying48 hi, hc, show List.range 2 = [0, 1] from rfl, hf]
  rfl

set_option maxRecDepth 100000 in
theorem pairs_same {w : World} {a b : Option Addr} {l : List (Int × Int)} {c d : Nat} (hA : Rd w a (pv l)) (hB : Rd w b (pv l)) (hl : l.length ≤ 600) :
    Calls Try.prog 18 #[.slice a l.length c, .slice b l.length d] w fun e w' => e = .returned (.bool true) ∧ ∃ nq, w' = w.drewN nq := by
  go_enter Try.func18, Try.ntmps18
  go_wp2_with fail
  go_loopw [5] (fun i wr => ∃ k : Nat, i = .int .i64 k ∧ k ≤ l.length ∧ ∃ nq, wr = w.drewN nq) (fun i _ => l.length - (intOf i).toNat)
  case atStart => exact ⟨0, rfl, by omega, 0, by rfl⟩
  case round =>
    obtain ⟨k, rfl, hk, nq, rfl⟩ := hrel
    by_cases hlt : k < l.length
    · obtain ⟨x, hx⟩ := (⟨l[k], List.getElem?_eq_getElem hlt⟩ : ∃ x, l[k]? = some x)
      obtain ⟨h1, h2⟩ := pv_at hx
      obtain ⟨ba, oa, rfl, a1⟩ := hA _ _ h1
      obtain ⟨bb, ob, rfl, b1⟩ := hB _ _ h1
      have a2 := hA.at h2
      have b2 := hB.at h2
      rw [← Nat.add_assoc] at a2 b2
      have k0 : (0 : Int) ≤ (k : Int) := Int.natCast_nonneg _
      have k1 : (k : Int) < (l.length : Int) := by omega
      clear h1 h2 hx
      have hne := fun w => neq_pair w x.1 x.2
      have hg := Try.noGuardP
      go_wp2_with fail
      go_quiet (fail)
      go_wp2
      go_roundw
      case rel => exact ⟨k + 1, rfl, by omega, _, rfl⟩
      case measure => simp [intOf]; omega
    · go_wp2_with fail
      go_ret
      exact ⟨rfl, nq, rfl⟩
theorem pairs_same_n {w : World} {a b : Option Addr} {l : List (Int × Int)} {n c d : Nat} (hn : l.length = n) (hA : Rd w a (pv l)) (hB : Rd w b (pv l)) (hl : l.length ≤ 600) :
    Calls Try.prog 18 #[.slice a n c, .slice b n d] w fun e w' => e = .returned (.bool true) ∧ ∃ nq, w' = w.drewN nq := by
  subst hn
  exact pairs_same hA hB hl
end Go.Proofs.Ytbjhhkhhfjmnjaa
