/-
  vm: the beginning; the state behind one more frame.
-/
import Derived.Test.YtjdeeloemhjbhaaGreatQVmR
import Derived.Test.YtjdeeloemhjbhaaGreatQVmS

namespace Go.Proofs.YtjdeeloemhjbhaaGreat
open Go.RowKit Go.Sep Go.Vm

theorem results_cell_tmp_sat {P : Program} {fn : Func} {p q : Tmp} {ty : TypeId} (h : fn.results = #[.cell p ty, .tmp q]) (tmps : Array Value) {W0 w : World} {L : List Asn} {g : Nat} {cs : List Value} {e : TypeId} {d : TypeDesc} (S : Sat W0 w (blk g cs e :: L))
    (hp : tmps.getD p undef = .pointer (some ⟨g, 0, none⟩)) (hu : P.underlying ty = some d) (hd : aggKind d = true) (hi : (P.info? ty).map (·.size) = some cs.length) {v : Value} (hv : tmps.getD q undef = v) :
    (results fn tmps).run P w = .ok (.tuple #[.agg cs.toArray, v]) w := by
  have hp' : tmps[p]?.getD undef = .pointer (some ⟨g, 0, none⟩) := by simpa using hp
  have hv' : tmps[q]?.getD undef = v := by simpa using hv
  have hl := run_loadVar_part (P := P) (w := w) (g := g) (off := 0) (n := cs.length) (cs := cs) (fun j _ => by rw [S.cell 0 rfl, Nat.zero_add]) rfl hu hd hi
  simp [results, h, hp', hv', asAddr, hl]

theorem Tryz.sizeS : (Tryz.prog.info? 46).map (·.size) = some 20 := by kernel_rfl

theorem start_vals (x : Int) {y : Int} (h : max 1 x = y) : svals (VS.start x) = [.int .i64 0, .int .i32 0, .int .i32 0, .int .i32 0, .int .i32 0, .int .i32 0, .int .i32 0, .int .i32 0, .int .i32 0, .int .i32 0, .int .i32 0, .int .i32 0, .int .i32 0, .int .i32 0, .int .i32 0, .int .i32 0, .int .i32 0, .int .u32 y, .bool false, .int .i64 0] := by
  unfold VS.start
  rw [h]
  rfl
theorem zero_one : ∀ u ∈ ([.int .i64 0, .int .i32 0, .int .i32 0, .int .i32 0, .int .i32 0, .int .i32 0, .int .i32 0, .int .i32 0, .int .i32 0, .int .i32 0, .int .i32 0, .int .i32 0, .int .i32 0, .int .i32 0, .int .i32 0, .int .i32 0, .int .i32 0, .int .u32 0, .bool false, .int .i64 0] : List Value), u.oneCell' = true := by
  intro u hu
  simp only [List.mem_cons, List.not_mem_nil, or_false] at hu
  rcases hu with rfl | rfl | rfl | rfl | rfl | rfl | rfl | rfl | rfl | rfl | rfl | rfl | rfl | rfl | rfl | rfl | rfl | rfl | rfl | rfl <;> rfl

def StartsAt (W0 : World) (L : List Asn) (x : Int) (e : Ending) (w' : World) : Prop := e = .returned (.agg (svals (VS.start x)).toArray) ∧ Sat W0 w' L

set_option maxRecDepth 100000 in
set_option maxHeartbeats 1600000 in
theorem vStart_any {W0 w : World} {L : List Asn} (S : Sat W0 w L) (x : Int) (hx : 0 ≤ x ∧ x < 4294967296) :
    Calls Tryz.prog 27 #[.int .u32 x] w (StartsAt W0 L x) := by
  have S1 : Sat W0 (w.alloc (.cells #[.int .i64 0, .int .i32 0, .int .i32 0, .int .i32 0, .int .i32 0, .int .i32 0, .int .i32 0, .int .i32 0, .int .i32 0, .int .i32 0, .int .i32 0, .int .i32 0, .int .i32 0, .int .i32 0, .int .i32 0, .int .i32 0, .int .i32 0, .int .u32 0, .bool false, .int .i64 0] 46)) (blk w.heap.size [.int .i64 0, .int .i32 0, .int .i32 0, .int .i32 0, .int .i32 0, .int .i32 0, .int .i32 0, .int .i32 0, .int .i32 0, .int .i32 0, .int .i32 0, .int .i32 0, .int .i32 0, .int .i32 0, .int .i32 0, .int .i32 0, .int .i32 0, .int .u32 0, .bool false, .int .i64 0] 46 :: L) := S.alloc [.int .i64 0, .int .i32 0, .int .i32 0, .int .i32 0, .int .i32 0, .int .i32 0, .int .i32 0, .int .i32 0, .int .i32 0, .int .i32 0, .int .i32 0, .int .i32 0, .int .i32 0, .int .i32 0, .int .i32 0, .int .i32 0, .int .i32 0, .int .u32 0, .bool false, .int .i64 0] _
  obtain ⟨y, hy⟩ : ∃ y, max 1 x = y := ⟨_, rfl⟩
  have hsv := start_vals x hy
  have HS := Lib.hid hsv
  have h1 := svals_one (VS.start x)
  rw [hsv] at h1
  have hcase : (x = 0 ∧ y = 1) ∨ (x = 1 ∧ y = 1) ∨ (2 ≤ x ∧ x = y) := by omega
  clear hsv hy
  rcases hcase with ⟨rfl, rfl⟩ | ⟨rfl, rfl⟩ | ⟨hx1, rfl⟩
  all_goals
    go_enter Tryz.func27, Tryz.ntmps27
    go_wp2_with (refine wpList_store_sat (n := 20) rfl 46 _ _ rfl S1 rfl rfl rfl (by decide) Tryz.sizeS h1 ?_; intro w2 S2)
    refine bodyPost_ret (results_cell_sat rfl _ S2 rfl Tryz.underlying46 rfl Tryz.sizeS) rfl ⟨?_, S2.tail⟩
    rw [HS.out]; rfl
end Go.Proofs.YtjdeeloemhjbhaaGreat
