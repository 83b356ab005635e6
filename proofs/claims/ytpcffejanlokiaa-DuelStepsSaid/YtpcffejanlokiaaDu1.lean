/-
  duel: what is told, and the fold.
-/
import Derived.Test.YtpcffejanlokiaaDuP
import Derived.Test.YtpcffejanlokiaaVmI
import Derived.Test.YtpcffejanlokiaaVmK0
import Derived.Test.YtpcffejanlokiaaVmE
namespace Go.Proofs.Ytpcffejanlokiaa
open Go.RowKit Go.Sep Go.Vm
set_option linter.unusedSimpArgs false

theorem fold_from : ∀ (cs : List Value) (k : Nat) (z : Array Value), z.size = k + cs.length → (List.foldl (fun cs x => cs.setIfInBounds x.2 x.1) z (cs.zipIdx k)).toList = z.toList.take k ++ cs
  | [], k, z, h => by
    simp only [List.zipIdx_nil, List.foldl_nil, List.append_nil]
    rw [List.take_of_length_le (by simpa using Nat.le_of_eq h)]
  | c :: r, k, z, h => by
    simp only [List.length_cons] at h
    rw [List.zipIdx_cons, List.foldl_cons, fold_from r (k + 1) _ (by simp; omega)]
    simp only [Array.toList_setIfInBounds]
    have hk : k < z.toList.length := by simp; omega
    have hkz : k < z.size := by omega
    rw [List.take_add_one, List.take_set_of_le (Nat.le_refl k)]
    simp only [List.append_assoc, List.append_cancel_left_eq, List.getElem?_set, if_pos hk, if_true]
    rfl
theorem fold_set (cs : List Value) (z : Array Value) (h : z.size = cs.length) : List.foldl (fun cs x => cs.setIfInBounds x.2 x.1) z cs.zipIdx = cs.toArray := by
  apply Array.toList_inj.1
  rw [fold_from cs 0 z (by omega)]
  rfl
theorem Try.infoS : (Try.prog.info? 31).map (fun i => (i.zero, i.size, i.bytes)) = some (some (.agg #[.int .i64 0, .int .i32 0, .int .i32 0, .int .i32 0, .int .i32 0, .int .i32 0, .int .i32 0, .int .i32 0, .int .i32 0, .int .i32 0, .int .i32 0, .int .i32 0, .int .i32 0, .int .i32 0, .int .i32 0, .int .i32 0, .int .i32 0, .int .u32 0, .bool false, .int .i64 0]), 20, 88) := by kernel_rfl
def Toldd (W0 : World) (T : List VS → Asn) (l : List VS) (L : List Asn) (e : Ending) (w' : World) : Prop := e = .returned (.tuple #[]) ∧ Sat W0 w' (T l :: L)
def Tells (W0 : World) (T : List VS → Asn) (K : Nat) (q : Nat) : Prop :=
  ∀ (L : List Asn) (w : World) (l : List VS) (s : VS), s.Ok → l.length ≤ 1000 → Sat W0 w (T l :: L) → Calls Try.prog K #[.agg (svals s).toArray, .pointer (some ⟨q, 0, none⟩)] w (Toldd W0 T (l ++ [s]) L)

/-- Play's: the last state -/
def TP (q : Nat) (l : List VS) : Asn := pureA (∀ s ∈ l, s.Ok) (blk q (svals (lastP VS.zero l)) 31)
theorem lastP_len {l : List VS} (h : ∀ s ∈ l, s.Ok) : (lastP VS.zero l).cells.length = 16 := by
  unfold lastP
  have hm := List.getLast_mem (l := VS.zero :: l) (by simp)
  rcases List.mem_cons.1 hm with e | e
  · rw [e]; rfl
  · exact (h _ e).len
/-- States': all of them -/
def stv (l : List VS) : List Value := (l.map svals).flatten
def sst (ao : Option Addr) (n cap : Nat) (l : List VS) : Asn := slc 31 20 ao n cap (stv l)
def TS (q : Nat) (l : List VS) : Asn := exA fun (r : Option Addr × Nat) => pureA (∀ s ∈ l, s.Ok) (star (blk q [.slice r.1 l.length r.2] 49) (sst r.1 l.length r.2 l))

theorem TS_open {W0 w : World} {L : List Asn} {q : Nat} {l : List VS} : Sat W0 w (TS q l :: L) ↔ ∃ ao cap, (∀ s ∈ l, s.Ok) ∧ Sat W0 w (blk q [.slice ao l.length cap] 49 :: sst ao l.length cap l :: L) := by
  unfold TS
  rw [Sat.ex]
  constructor
  · rintro ⟨⟨ao, cap⟩, h⟩
    obtain ⟨h1, h2⟩ := Sat.pure.1 h
    exact ⟨ao, cap, h1, Sat.star.1 h2⟩
  · rintro ⟨ao, cap, h1, h2⟩
    exact ⟨⟨ao, cap⟩, Sat.pure.2 ⟨h1, Sat.star.2 h2⟩⟩
theorem stv_append (a b : List VS) : stv (a ++ b) = stv a ++ stv b := by simp [stv]
theorem stv_one (s : VS) : stv [s] = svals s := by simp [stv]
theorem stv_length : ∀ {l : List VS}, (∀ s ∈ l, s.Ok) → (stv l).length = l.length * 20
  | [], _ => rfl
  | s :: r, h => by
    have h1 := svals_length (h s (by simp)).len
    have h2 := stv_length (l := r) (fun x hx => h x (by simp [hx]))
    rw [show stv (s :: r) = svals s ++ stv r from rfl, List.length_append, h1, h2, List.length_cons]
    omega

set_option maxRecDepth 100000 in
set_option maxHeartbeats 1600000 in
theorem playTell (W0 : World) (q : Nat) : Tells W0 (TP q) 24 q := by
  intro L w l s hs hl S
  unfold TP at S
  obtain ⟨ho, S0⟩ := Sat.pure.1 S
  have S1 := S0.alloc (svals s) 31
  have HL := Lib.hid (svals_length hs.len)
  have hx20 := svals_length (lastP_len ho)
  have HFIN : Hid (TP q (l ++ [s]) = pureA (∀ x ∈ l ++ [s], VS.Ok x) (blk q (svals s) 31)) := by
    show TP _ _ = _
    unfold TP
    rw [lastP_snoc]
  have HO : Hid (∀ x ∈ l ++ [s], VS.Ok x) := fun x hx => by
    rcases List.mem_append.1 hx with h | h
    · exact ho x h
    · rw [List.mem_singleton.1 h]; exact hs
  obtain ⟨x, hx⟩ : ∃ x, svals (lastP VS.zero l) = x := ⟨_, rfl⟩
  rw [hx] at S0 S1 hx20
  have hbk : x.take 0 ++ svals s ++ x.drop (0 + 20) = svals s := by
    rw [List.take_zero, List.nil_append, List.drop_of_length_le (by rw [hx20]; omega), List.append_nil]
  have HBK := Lib.hid hbk
  have HX := Lib.hid hx20
  clear S hx hbk hx20 ho
  go_enter Try.func24, Try.ntmps24
  go_wp2_with (first
    | (refine wpList_load_part rfl 31 _ rfl (n := 20) rfl (Sat.whole S1 20) HL.out Try.underlying31 rfl Try.sizeS ?_)
    | (refine wpList_store_sat (off := 0) (n := 20) rfl 31 _ _ rfl (S1.sel [1]) rfl rfl HL.out (by rw [HX.out]; decide) Try.sizeS (svals_one s) ?_; intro w2 S2; rw [HBK.out] at S2))
  go_end0
  refine ⟨rfl, ?_⟩
  rw [HFIN.out]
  exact Sat.pure.2 ⟨HO.out, (S2.sel [1]).tail⟩

set_option maxRecDepth 100000 in
set_option maxHeartbeats 1600000 in
theorem statesTell (W0 : World) (q : Nat) : Tells W0 (TS q) 27 q := by
  intro L w l s hs hl S
  obtain ⟨ao, cap, ho, S0⟩ := TS_open.1 S
  have S1 := S0.alloc (svals s) 31
  have HL := Lib.hid (svals_length hs.len)
  have HFIN : Hid (∀ x ∈ l ++ [s], VS.Ok x) := fun x hx => by
    rcases List.mem_append.1 hx with h | h
    · exact ho x h
    · rw [List.mem_singleton.1 h]; exact hs
  have hfold := fold_set (svals s) #[.int .i64 0, .int .i32 0, .int .i32 0, .int .i32 0, .int .i32 0, .int .i32 0, .int .i32 0, .int .i32 0, .int .i32 0, .int .i32 0, .int .i32 0, .int .i32 0, .int .i32 0, .int .i32 0, .int .i32 0, .int .i32 0, .int .i32 0, .int .u32 0, .bool false, .int .i64 0] (by rw [HL.out]; rfl)
  have c0 := S1.cell 1 rfl 0
  have f0 := S1.frozen 1 rfl 0
  simp only [List.getElem?_cons_zero] at c0
  obtain ⟨i0, hi, hz0, hz1, hz2⟩ := info_parts Try.infoS
  have hlen := (S0.sel [1]).own_len
  have S1a := S1.alloc (svals s) 31
  simp only [World.size_alloc] at S1a
  have h1 := svals_one s
  have HX1 := Lib.hid h1
  have hl20 := HL.out
  clear h1 ho hs
  go_enter Try.func27, Try.ntmps27
  go_wp2_with (first
    | (refine wpList_load_part rfl 31 _ rfl (n := 20) rfl (Sat.whole S1 20) HL.out Try.underlying31 rfl Try.sizeS ?_)
    | (at_builtin; refine wpList_append_sat rfl (.tmp 3) (.tmp 5) _ rfl 31 i0 _ 20 88 Try.underlying49 hi hz0 hz1 hz2 rfl (by decide) (S1a.sel [3]) rfl rfl (Rd.lit (S1a.block 0 rfl).1) HL.out HX1.out (by unfold maxLen; omega) (by omega) ?_; intro ao' cap' w2 S2; have c2 := S2.cell 3 rfl 0; have f2 := S2.frozen 3 rfl 0; simp only [List.getElem?_cons_zero] at c2))
  go_end0
  refine ⟨rfl, TS_open.2 ⟨ao', cap', HFIN.out, ?_⟩⟩
  have S3 := S2.setCell (k := 0) (v := .slice ao' (l.length + 1) cap') 3 rfl
  unfold sst
  rw [stv_append, stv_one, List.length_append, List.length_singleton]
  have e : l.length + [s].length = l.length + 1 := rfl
  exact ((S3.sel [1]).tail.sel [1]).tail.swap
end Go.Proofs.Ytpcffejanlokiaa
