/-
  vm: the machine in memory; pop, push.
-/
import Derived.Test.YtjdeeloemhjbhaaGreatRows
import Derived.RegionTactic
import Derived.Test.YtjdeeloemhjbhaaGreatSlice
import Derived.Test.YtjdeeloemhjbhaaGreatQVmP

namespace Go.Proofs.YtjdeeloemhjbhaaGreat
open Go.RowKit Go.Sep Go.Vm

theorem Tryz.infoI32 : (Tryz.prog.info? 21).map (fun i => (i.zero, i.size, i.bytes)) = some (some (.int .i32 0), 1, 4) := by kernel_rfl
def iv (l : List Int) : List Value := l.map (Value.int .i32)
theorem iv_length (l : List Int) : (iv l).length = l.length := by simp [iv]
theorem iv_append (l k : List Int) : iv (l ++ k) = iv l ++ iv k := by simp [iv]
theorem iv_one (l : List Int) : ∀ u ∈ iv l, u.oneCell' = true := by
  intro u hu; obtain ⟨x, _, rfl⟩ := List.mem_map.1 hu; rfl

def Mc (p : Nat) (m : VM) : Asn := exA fun (r : Option Addr × Nat) => star (blk p (mvals m r.1 r.2) 153) (slc 21 1 r.1 m.st.length r.2 (iv m.st.reverse))
theorem Mc_open {W0 w : World} {L : List Asn} {p : Nat} {m : VM} : Sat W0 w (Mc p m :: L) ↔ ∃ ao cap, Sat W0 w (blk p (mvals m ao cap) 153 :: slc 21 1 ao m.st.length cap (iv m.st.reverse) :: L) := by
  unfold Mc
  constructor
  · intro h
    obtain ⟨⟨ao, cap⟩, h⟩ := Sat.ex.1 h
    exact ⟨ao, cap, Sat.star.1 h⟩
  · rintro ⟨ao, cap, h⟩
    exact Sat.ex.2 ⟨(ao, cap), Sat.star.2 h⟩


/-- the machine's cells, as the walk wants them -/
structure McAt (w : World) (p : Nat) (m : VM) (ao : Option Addr) (cap : Nat) : Prop where
  frame : w.cell? ⟨p, 0, none⟩ = some (.int .i64 m.s.frame)
  seed : w.cell? ⟨p, 17, none⟩ = some (.int .u32 m.s.seed)
  over : w.cell? ⟨p, 18, none⟩ = some (.bool m.s.over)
  winner : w.cell? ⟨p, 19, none⟩ = some (.int .i64 m.s.winner)
  i0 : w.cell? ⟨p, 20, none⟩ = some (.int .u16 m.i0)
  i1 : w.cell? ⟨p, 21, none⟩ = some (.int .u16 m.i1)
  st : w.cell? ⟨p, 22, none⟩ = some (.slice ao m.st.length cap)
  pc : w.cell? ⟨p, 23, none⟩ = some (.int .i64 m.pc)
  ended : w.cell? ⟨p, 24, none⟩ = some (.bool m.ended)
  bad : w.cell? ⟨p, 25, none⟩ = some (.bool m.bad)
  cells : ∀ k, k < 16 → w.cell? ⟨p, 1 + k, none⟩ = some (.int .i32 (m.s.cells[k]?.getD 0))
  free : ∀ k, w.frozen? ⟨p, k, none⟩ = false
theorem mc_at {W0 w : World} {L : List Asn} {p : Nat} {m : VM} {ao : Option Addr} {cap : Nat} (h : m.s.cells.length = 16) (S : Sat W0 w (blk p (mvals m ao cap) 153 :: L)) : McAt w p m ao cap :=
  ⟨S.cell 0 rfl 0, (S.cell 0 rfl 17).trans (mvals_tail h 0), (S.cell 0 rfl 18).trans (mvals_tail h 1), (S.cell 0 rfl 19).trans (mvals_tail h 2), (S.cell 0 rfl 20).trans (mvals_tail h 3), (S.cell 0 rfl 21).trans (mvals_tail h 4),
   (S.cell 0 rfl 22).trans (mvals_tail h 5), (S.cell 0 rfl 23).trans (mvals_tail h 6), (S.cell 0 rfl 24).trans (mvals_tail h 7), (S.cell 0 rfl 25).trans (mvals_tail h 8), fun k hk => (S.cell 0 rfl (1 + k)).trans (mvals_cell h hk), fun k => S.frozen 0 rfl k⟩

theorem mc_seed {W0 w : World} {L : List Asn} {p : Nat} {m : VM} {ao : Option Addr} {cap : Nat} (h : m.s.cells.length = 16) (S : Sat W0 w (blk p (mvals m ao cap) 153 :: L)) (v : Int) : Sat W0 (w.setCell ⟨p, 17, none⟩ (.int .u32 v)) (blk p (mvals { m with s := { m.s with seed := v } } ao cap) 153 :: L) := by
  rw [← mvals_seed h]; exact S.setCell 0 rfl
theorem mc_over {W0 w : World} {L : List Asn} {p : Nat} {m : VM} {ao : Option Addr} {cap : Nat} (h : m.s.cells.length = 16) (S : Sat W0 w (blk p (mvals m ao cap) 153 :: L)) (v : Bool) : Sat W0 (w.setCell ⟨p, 18, none⟩ (.bool v)) (blk p (mvals { m with s := { m.s with over := v } } ao cap) 153 :: L) := by
  rw [← mvals_over h]; exact S.setCell 0 rfl
theorem mc_winner {W0 w : World} {L : List Asn} {p : Nat} {m : VM} {ao : Option Addr} {cap : Nat} (h : m.s.cells.length = 16) (S : Sat W0 w (blk p (mvals m ao cap) 153 :: L)) (v : Int) : Sat W0 (w.setCell ⟨p, 19, none⟩ (.int .i64 v)) (blk p (mvals { m with s := { m.s with winner := v } } ao cap) 153 :: L) := by
  rw [← mvals_winner h]; exact S.setCell 0 rfl
theorem mc_st {W0 w : World} {L : List Asn} {p : Nat} {m : VM} {ao : Option Addr} {cap : Nat} (h : m.s.cells.length = 16) (S : Sat W0 w (blk p (mvals m ao cap) 153 :: L)) (st : List Int) (ao' : Option Addr) (cap' : Nat) : Sat W0 (w.setCell ⟨p, 22, none⟩ (.slice ao' st.length cap')) (blk p (mvals { m with st := st } ao' cap') 153 :: L) := by
  rw [← mvals_st h]; exact S.setCell 0 rfl
theorem mc_pc {W0 w : World} {L : List Asn} {p : Nat} {m : VM} {ao : Option Addr} {cap : Nat} (h : m.s.cells.length = 16) (S : Sat W0 w (blk p (mvals m ao cap) 153 :: L)) (v : Int) : Sat W0 (w.setCell ⟨p, 23, none⟩ (.int .i64 v)) (blk p (mvals { m with pc := v } ao cap) 153 :: L) := by
  rw [← mvals_pc h]; exact S.setCell 0 rfl
theorem mc_ended {W0 w : World} {L : List Asn} {p : Nat} {m : VM} {ao : Option Addr} {cap : Nat} (h : m.s.cells.length = 16) (S : Sat W0 w (blk p (mvals m ao cap) 153 :: L)) (v : Bool) : Sat W0 (w.setCell ⟨p, 24, none⟩ (.bool v)) (blk p (mvals { m with ended := v } ao cap) 153 :: L) := by
  rw [← mvals_ended h]; exact S.setCell 0 rfl
theorem mc_bad {W0 w : World} {L : List Asn} {p : Nat} {m : VM} {ao : Option Addr} {cap : Nat} (h : m.s.cells.length = 16) (S : Sat W0 w (blk p (mvals m ao cap) 153 :: L)) (v : Bool) : Sat W0 (w.setCell ⟨p, 25, none⟩ (.bool v)) (blk p (mvals { m with bad := v } ao cap) 153 :: L) := by
  rw [← mvals_bad h]; exact S.setCell 0 rfl
theorem mc_set {W0 w : World} {L : List Asn} {p : Nat} {m : VM} {ao : Option Addr} {cap : Nat} (h : m.s.cells.length = 16) (S : Sat W0 w (blk p (mvals m ao cap) 153 :: L)) {k : Nat} (hk : k < 16) (v : Int) : Sat W0 (w.setCell ⟨p, 1 + k, none⟩ (.int .i32 v)) (blk p (mvals { m with s := { m.s with cells := m.s.cells.set k v } } ao cap) 153 :: L) := by
  rw [← mvals_set h hk]; exact S.setCell 0 rfl

set_option maxRecDepth 100000 in
theorem vpop_nil {W0 w : World} {L : List Asn} {p : Nat} {m : VM} (h : m.s.cells.length = 16) (S : Sat W0 w (Mc p m :: L)) (h0 : m.st = []) :
    Calls Tryz.prog 118 #[.pointer (some ⟨p, 0, none⟩)] w fun e w' => e = .returned (.int .i32 0) ∧ Sat W0 w' (Mc p { m with bad := true } :: L) := by
  obtain ⟨ao, cap, S'⟩ := Mc_open.1 S
  have hM := mc_at h S'
  have c1 := hM.st
  have f25 := hM.free 25
  have c25 := hM.bad
  rw [h0] at c1
  have S2 := mc_bad h S' true
  clear hM
  go_enter Tryz.func118, Tryz.ntmps118
  go_wp2_with fail
  go_ret
  exact ⟨rfl, Mc_open.2 ⟨ao, cap, S2⟩⟩

set_option maxRecDepth 100000 in
theorem vpop_cons {W0 w : World} {L : List Asn} {p : Nat} {m : VM} (h : m.s.cells.length = 16) (S : Sat W0 w (Mc p m :: L)) {v : Int} {r : List Int} (h0 : m.st = v :: r) :
    Calls Tryz.prog 118 #[.pointer (some ⟨p, 0, none⟩)] w fun e w' => e = .returned (.int .i32 v) ∧ Sat W0 w' (Mc p { m with st := r } :: L) := by
  obtain ⟨ao, cap, S'⟩ := Mc_open.1 S
  have hM := mc_at h S'
  have c22 := hM.st
  have f22 := hM.free 22
  have hlen := (S'.sel [1]).own_len
  have hcap := hlen.2.1
  have hmx := hlen.2.2.1
  unfold maxLen at hmx
  rw [h0, List.length_cons] at hcap
  rw [h0, List.length_cons] at c22
  have S1 := S'.sel [1]
  rw [h0, List.reverse_cons, iv_append, List.length_cons] at S1
  cases ao with
  | none => have := (Sat.own_none.1 S1).1; omega
  | some ad =>
    obtain ⟨b, off, rfl⟩ := S1.own_addr
    obtain ⟨cv, _⟩ := S1.own_cell (i := r.length) (u := .int .i32 v) (by rw [List.getElem?_append_right (by rw [iv_length]; simp), iv_length]; simp [iv])
    have S2 := (S1.own_shrink (by rw [iv_length]; simp)).sel [1]
    have S3 := mc_st h S2 r (some ⟨b, off, none⟩) cap
    clear hM hlen S' S1 S2
    go_enter Tryz.func118, Tryz.ntmps118
    go_wp2_with fail
    go_ret
    exact ⟨rfl, Mc_open.2 ⟨_, cap, S3⟩⟩

theorem vpop_any {W0 w : World} {L : List Asn} {p : Nat} {m : VM} (h : m.s.cells.length = 16) (S : Sat W0 w (Mc p m :: L)) {v : Int} {m' : VM} (hp : m.pop = (v, m')) :
    Calls Tryz.prog 118 #[.pointer (some ⟨p, 0, none⟩)] w fun e w' => e = .returned (.int .i32 v) ∧ Sat W0 w' (Mc p m' :: L) := by
  obtain ⟨s, i0, i1, st, pc, en, bd⟩ := m
  cases st with
  | nil => cases hp; exact vpop_nil h S rfl
  | cons x r => cases hp; exact vpop_cons h S rfl

def VM.pushL (m : VM) (xs : List Int) (n : Nat) : VM := { m with st := xs.reverse ++ m.st, bad := m.bad || decide (32 < m.st.length + n) }

set_option maxRecDepth 100000 in
theorem vpush_any {W0 w : World} {L : List Asn} {p : Nat} {m : VM} (h : m.s.cells.length = 16) (S : Sat W0 w (Mc p m :: L)) {lo : Option Addr} {n c : Nat} {xs : List Int} (hR : Rd w lo (iv xs)) (hx : xs.length = n) (hb : m.st.length + n ≤ 1000) :
    Calls Tryz.prog 117 #[.pointer (some ⟨p, 0, none⟩), .slice lo n c] w fun e w' => e = .returned (.tuple #[]) ∧ Sat W0 w' (Mc p (VM.pushL m xs n) :: L) := by
  obtain ⟨ao, cap, S'⟩ := Mc_open.1 S
  have hM := mc_at h S'
  have c22 := hM.st
  obtain ⟨i0, hi, hz0, hz1, hz2⟩ := info_parts Tryz.infoI32
  have HX := Lib.hid hx
  have e1 : (xs.reverse ++ m.st).length = m.st.length + n := by rw [List.length_append, List.length_reverse, hx, Nat.add_comm]
  have e2 : iv m.st.reverse ++ iv xs = iv (xs.reverse ++ m.st).reverse := by rw [List.reverse_append, List.reverse_reverse, iv_append]
  have E1 := Lib.hid e1
  have E2 := Lib.hid e2
  clear hx hM e1 e2
  by_cases hbig : 32 < m.st.length + n
  · have e5 : VM.pushL m xs n = { m with st := xs.reverse ++ m.st, bad := true } := by unfold VM.pushL; rw [decide_eq_true hbig, Bool.or_true]
    have E5 := Lib.hid e5
    clear e5
    go_enter Tryz.func117, Tryz.ntmps117
    go_wp2_with (at_builtin; refine wpList_append_sat rfl (.tmp 8) (.tmp 9) _ rfl 21 i0 (.int .i32 0) 1 4 Tryz.underlying138 hi hz0 hz1 hz2 rfl (by decide) (S'.sel [1]) rfl rfl hR (by rw [iv_length, HX.out, Nat.mul_one]) (iv_one _) (by unfold maxLen; omega) (by omega) ?_; intro ao2 cap2 w2 S2; rw [E2.out] at S2; have hM2 := mc_at h (S2.sel [1]); have c22' := hM2.st; have f22 := hM2.free 22; have c25 := hM2.bad; have f25 := hM2.free 25; clear hM2)
    go_end0
    refine ⟨rfl, Mc_open.2 ⟨ao2, cap2, ?_⟩⟩
    have S3 := mc_st h (S2.sel [1]) (xs.reverse ++ m.st) ao2 cap2
    have S4 := mc_bad (m := { m with st := xs.reverse ++ m.st }) h S3 true
    rw [E5.out]
    rw [E1.out] at S4
    show Sat _ _ (_ :: slc _ 1 ao2 (xs.reverse ++ m.st).length cap2 _ :: L)
    rw [E1.out]
    exact S4
  · have e5 : VM.pushL m xs n = { m with st := xs.reverse ++ m.st } := by unfold VM.pushL; rw [decide_eq_false hbig, Bool.or_false]
    have E5 := Lib.hid e5
    clear e5
    go_enter Tryz.func117, Tryz.ntmps117
    go_wp2_with (at_builtin; refine wpList_append_sat rfl (.tmp 8) (.tmp 9) _ rfl 21 i0 (.int .i32 0) 1 4 Tryz.underlying138 hi hz0 hz1 hz2 rfl (by decide) (S'.sel [1]) rfl rfl hR (by rw [iv_length, HX.out, Nat.mul_one]) (iv_one _) (by unfold maxLen; omega) (by omega) ?_; intro ao2 cap2 w2 S2; rw [E2.out] at S2; have hM2 := mc_at h (S2.sel [1]); have c22' := hM2.st; have f22 := hM2.free 22; have c25 := hM2.bad; have f25 := hM2.free 25; clear hM2)
    go_end0
    refine ⟨rfl, Mc_open.2 ⟨ao2, cap2, ?_⟩⟩
    have S3 := mc_st h (S2.sel [1]) (xs.reverse ++ m.st) ao2 cap2
    rw [E5.out]
    rw [E1.out] at S3
    show Sat _ _ (_ :: slc _ 1 ao2 (xs.reverse ++ m.st).length cap2 _ :: L)
    rw [E1.out]
    exact S3

theorem vpush_new {W0 w : World} {L : List Asn} {p : Nat} {m : VM} (h : m.s.cells.length = 16) (S : Sat W0 w (Mc p m :: L)) {e : TypeId} {v : Int} (hb : m.st.length ≤ 900) :
    Calls Tryz.prog 117 #[.pointer (some ⟨p, 0, none⟩), .slice (some ⟨w.heap.size, 0, none⟩) 1 1] (w.alloc (.cells #[.int .i32 v] e)) fun e w' => e = .returned (.tuple #[]) ∧ Sat W0 w' (Mc p (m.push v) :: L) :=
  (vpush_any (xs := [v]) h ((S.alloc [.int .i32 v] e).bring 1) (n := 1) (Rd.lit (heap_alloc_new w _)) rfl (by omega)).mono fun _ _ ⟨h1, h2⟩ => ⟨h1, (h2.bring 1).tail⟩
theorem vpush_at {W0 w : World} {L : List Asn} {p : Nat} {m : VM} (h : m.s.cells.length = 16) (S : Sat W0 w (Mc p m :: L)) {e : TypeId} {v : Int} (hb : m.st.length ≤ 900) {g : Nat} (hg : w.heap.size = g) :
    Calls Tryz.prog 117 #[.pointer (some ⟨p, 0, none⟩), .slice (some ⟨g, 0, none⟩) 1 1] (w.alloc (.cells #[.int .i32 v] e)) fun e w' => e = .returned (.tuple #[]) ∧ Sat W0 w' (Mc p (m.push v) :: L) := by
  subst hg
  exact vpush_new h S hb
theorem vpush2_new {W0 w : World} {L : List Asn} {p : Nat} {m : VM} (h : m.s.cells.length = 16) (S : Sat W0 w (Mc p m :: L)) {e : TypeId} {v u : Int} (hb : m.st.length ≤ 900) :
    Calls Tryz.prog 117 #[.pointer (some ⟨p, 0, none⟩), .slice (some ⟨w.heap.size, 0, none⟩) 2 2] (w.alloc (.cells #[.int .i32 v, .int .i32 u] e)) fun e w' => e = .returned (.tuple #[]) ∧ Sat W0 w' (Mc p (m.push2 v u) :: L) :=
  (vpush_any (xs := [v, u]) h ((S.alloc [.int .i32 v, .int .i32 u] e).bring 1) (n := 2) (Rd.lit (heap_alloc_new w _)) rfl (by omega)).mono fun _ _ ⟨h1, h2⟩ => ⟨h1, (h2.bring 1).tail⟩
end Go.Proofs.YtjdeeloemhjbhaaGreat
