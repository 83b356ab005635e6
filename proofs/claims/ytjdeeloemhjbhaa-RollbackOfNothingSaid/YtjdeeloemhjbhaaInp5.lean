/-
  inputs: how much is known of both, and what.
-/
import Derived.Test.YtjdeeloemhjbhaaInp4
import Derived.Deep.RegionHeld3
namespace Go.Proofs.Ytjdeeloemhjbhaa
open Go.RowKit Go.Sep Go.Inp

set_option maxRecDepth 100000 in
theorem qboth_any {W0 w : World} {L : List Asn} {p : Nat} {q : PQ} (S : Sat W0 w (Qu p q :: L)) :
    Calls Try.prog 34 #[.pointer (some ⟨p, 0, none⟩)] w fun e w' => e = .returned (.int .i64 q.both) ∧ w = w' := by
  have h0 : Hid (q.known 0 = lead q.r0.kn) := by show _ = _; unfold PQ.known; rw [if_pos rfl]
  have h1 : Hid (q.known 1 = lead q.r1.kn) := by show _ = _; unfold PQ.known; rw [if_neg (by decide), if_pos rfl]
  by_cases hle : lead q.r0.kn ≤ lead q.r1.kn
  · have HB : Hid (q.both = lead q.r0.kn) := by show _ = _; unfold PQ.both; omega
    go_enter Try.func34, Try.ntmps34
    go_wp2_with (first | (go_at_call_of 26 (Value.int .i64 0); refine (qknown_any S 0).mono ?_; rintro e w1 ⟨rfl, rfl⟩; rw [h0.out]) | (go_at_call_of 26 (Value.int .i64 1); refine (qknown_any S 1).mono ?_; rintro e w1 ⟨rfl, rfl⟩; rw [h1.out]))
    go_ret
    exact ⟨by rw [HB.out]; rfl, rfl⟩
  · have HB : Hid (q.both = lead q.r1.kn) := by show _ = _; unfold PQ.both; omega
    go_enter Try.func34, Try.ntmps34
    go_wp2_with (first | (go_at_call_of 26 (Value.int .i64 0); refine (qknown_any S 0).mono ?_; rintro e w1 ⟨rfl, rfl⟩; rw [h0.out]) | (go_at_call_of 26 (Value.int .i64 1); refine (qknown_any S 1).mono ?_; rintro e w1 ⟨rfl, rfl⟩; rw [h1.out]))
    go_ret
    exact ⟨by rw [HB.out]; rfl, rfl⟩

/-- a row of pairs, as cells -/
def pv : List (Int × Int) → List Value
  | [] => []
  | x :: r => .int .u16 x.1 :: .int .u16 x.2 :: pv r
theorem pv_length (l : List (Int × Int)) : (pv l).length = l.length * 2 := by
  induction l with
  | nil => rfl
  | cons x r ih => simp only [pv, List.length_cons, ih]; omega
theorem pv_append (a b : List (Int × Int)) : pv (a ++ b) = pv a ++ pv b := by
  induction a with
  | nil => rfl
  | cons x r ih => simp only [List.cons_append, pv, ih]
theorem pv_one (l : List (Int × Int)) : ∀ u ∈ pv l, u.oneCell' = true := by
  induction l with
  | nil => intro u hu; simp [pv] at hu
  | cons x r ih =>
    intro u hu
    simp only [pv, List.mem_cons] at hu
    rcases hu with rfl | rfl | hu
    · rfl
    · rfl
    · exact ih u hu
def sps (ao : Option Addr) (n cap : Nat) (l : List (Int × Int)) : Asn := slc 62 2 ao n cap (pv l)
theorem Try.infoP : (Try.prog.info? 62).map (fun i => (i.zero, i.size, i.bytes)) = some (some (.agg #[.int .u16 0, .int .u16 0]), 2, 4) := by kernel_rfl

def GivesP (W0 : World) (L : List Asn) (l : List (Int × Int)) (e : Ending) (w' : World) : Prop := ∃ ao cap, e = .returned (.slice ao l.length cap) ∧ Sat W0 w' (sps ao l.length cap l :: L)

theorem pairs_snoc {q : PQ} {k : Nat} : ((List.range (k + 1)).map fun i => (inAt q.r0 i, inAt q.r1 i)) = ((List.range k).map fun i => (inAt q.r0 i, inAt q.r1 i)) ++ [(inAt q.r0 k, inAt q.r1 k)] := by
  rw [List.range_succ, List.map_append]; rfl

theorem four_cells {W0 w : World} {L : List Asn} {p : Nat} {q : PQ} {x : Nat × Nat × Nat × Nat} {k : Nat} (S2 : Sat W0 w (quL p q x ++ L)) (hq : q.ok) (hk : k < q.n) :
    w.cell? ⟨p, 0, none⟩ = some (.slice (some ⟨x.1, 0, none⟩) q.n q.n) ∧ w.cell? ⟨p, 3, none⟩ = some (.slice (some ⟨x.2.2.1, 0, none⟩) q.n q.n) ∧
      w.cell? ⟨x.1, k, none⟩ = some (.int .u16 (inAt q.r0 k)) ∧ w.cell? ⟨x.2.2.1, k, none⟩ = some (.int .u16 (inAt q.r1 k)) :=
  ⟨(row_cells (pre := []) (post := rowCells x.2.2.1 x.2.2.2 q.n (lead q.r1.kn)) (o := 0) S2 rfl).1,
   (row_cells (pre := rowCells x.1 x.2.1 q.n (lead q.r0.kn)) (post := []) (o := 3) (S2.sel [0, 2, 2]) rfl).1,
   in_cell (pre := []) (post := rowCells x.2.2.1 x.2.2.2 q.n (lead q.r1.kn)) S2 (k := k) (by rw [hq.2.1.1]; omega),
   in_cell (pre := rowCells x.1 x.2.1 q.n (lead q.r0.kn)) (post := []) (S2.sel [0, 2, 2]) (k := k) (by rw [hq.2.2.1]; omega)⟩

end Go.Proofs.Ytjdeeloemhjbhaa
