/-
  VmR8, VmW1, VmWz, VmWa, VmWb, VmWc, VmWd, VmWe, VmWf, VmW2 in one text (wip/tools/squeeze.py)
-/
import Derived.Deep.RegionWith
import Derived.StillTailTactics
import Derived.Deep.DeepCutAuto
import Derived.Deep.CutBlock
import Derived.Deep.RegionHeld3
import Derived.Test.YtjdeeloemhjbhaaGreatQVm3
import Derived.Test.YtjdeeloemhjbhaaGreatQVmW0
import Derived.Test.YtjdeeloemhjbhaaGreatQVmC

section
namespace Go.Proofs.YtjdeeloemhjbhaaGreat
open Go.RowKit Go.Sep Go.Vm

set_option maxRecDepth 100000 in
theorem r8held_any (w : World) (v : Int) (h : -9223372036854775808 ≤ v ∧ v < 9223372036854775808) : Calls Tryz.prog 116 #[.int .i64 v] w fun e w' => e = .returned (.int .i32 (held v)) ∧ w = w' := by
  go_enter Tryz.func116, Tryz.ntmps116
  go_wp2_with fail
  all_goals
    go_ret
    exact ⟨ret_int (by unfold held; omega), rfl⟩

set_option maxRecDepth 100000 in
theorem r8add_any (w : World) (a b : Int) (ha : -2147483648 ≤ a ∧ a ≤ 2147483647) (hb : -2147483648 ≤ b ∧ b ≤ 2147483647) : Calls Tryz.prog 89 #[.int .i32 a, .int .i32 b] w fun e w' => e = .returned (.int .i32 (fadd a b)) ∧ w = w' := by
  go_enter Tryz.func89, Tryz.ntmps89
  go_wp2_with (go_at_call 116; refine (r8held_any _ (a + b) (by omega)).mono ?_; rintro e w1 ⟨rfl, rfl⟩)
  go_ret
  exact ⟨rfl, rfl⟩

set_option maxRecDepth 100000 in
theorem r8sub_any (w : World) (a b : Int) (ha : -2147483648 ≤ a ∧ a ≤ 2147483647) (hb : -2147483648 ≤ b ∧ b ≤ 2147483647) : Calls Tryz.prog 90 #[.int .i32 a, .int .i32 b] w fun e w' => e = .returned (.int .i32 (fsub a b)) ∧ w = w' := by
  go_enter Tryz.func90, Tryz.ntmps90
  go_wp2_with (go_at_call 116; refine (r8held_any _ (a - b) (by omega)).mono ?_; rintro e w1 ⟨rfl, rfl⟩)
  go_ret
  exact ⟨rfl, rfl⟩

set_option maxRecDepth 100000 in
theorem r8mul_any (w : World) (a b : Int) (ha : -2147483648 ≤ a ∧ a ≤ 2147483647) (hb : -2147483648 ≤ b ∧ b ≤ 2147483647) : Calls Tryz.prog 91 #[.int .i32 a, .int .i32 b] w fun e w' => e = .returned (.int .i32 (fmul a b)) ∧ w = w' := by
  have hm := mul_bd ha hb
  have h2 : -9223372036854775808 ≤ a * b / 65536 ∧ a * b / 65536 < 9223372036854775808 := by omega
  go_enter Tryz.func91, Tryz.ntmps91
  go_wp2_with (go_at_call 116; refine (r8held_any _ (a * b / 65536) h2).mono ?_; rintro e w1 ⟨rfl, rfl⟩)
  go_ret
  exact ⟨rfl, rfl⟩

set_option maxRecDepth 100000 in
theorem r8div_any (w : World) (a b : Int) (ha : -2147483648 ≤ a ∧ a ≤ 2147483647) (hb : -2147483648 ≤ b ∧ b ≤ 2147483647) : Calls Tryz.prog 92 #[.int .i32 a, .int .i32 b] w fun e w' => e = .returned (.int .i32 (fdiv a b)) ∧ w = w' := by
  by_cases hz : b = 0
  · subst hz
    by_cases h1 : 0 < a
    · have e1 : Hid (fdiv a 0 = 2147483647) := by show _ = _; unfold fdiv; rw [if_neg (by simp), if_pos h1]
      go_enter Tryz.func92, Tryz.ntmps92
      go_wp2_with fail
      go_ret
      exact ⟨ret_int e1.out.symm, rfl⟩
    · by_cases h2 : a < 0
      · have e1 : Hid (fdiv a 0 = -2147483648) := by show _ = _; unfold fdiv; rw [if_neg (by simp), if_neg h1, if_pos h2]
        go_enter Tryz.func92, Tryz.ntmps92
        go_wp2_with fail
        go_ret
        exact ⟨ret_int e1.out.symm, rfl⟩
      · have e1 : Hid (fdiv a 0 = 0) := by show _ = _; unfold fdiv; rw [if_neg (by simp), if_neg h1, if_neg h2]
        go_enter Tryz.func92, Tryz.ntmps92
        go_wp2_with fail
        go_ret
        exact ⟨ret_int e1.out.symm, rfl⟩
  · have e1 : Hid (fdiv a b = held ((a * 65536).tdiv b)) := by show _ = _; unfold fdiv; rw [if_pos hz]
    have hne : (b != 0) = true := by simpa using hz
    have hne2 : (b == 0) = false := by simpa using hz
    have hq : -9223372036854775808 ≤ (a * 65536).tdiv b ∧ (a * 65536).tdiv b < 9223372036854775808 := by
      have h3 : ((a * 65536).tdiv b).natAbs ≤ (a * 65536).natAbs := by
        rw [Int.natAbs_tdiv]; exact Nat.div_le_self _ _
      omega
    go_enter Tryz.func92, Tryz.ntmps92
    go_wp2_with (go_at_call 116; refine (r8held_any _ ((a * 65536).tdiv b) hq).mono ?_; rintro e w1 ⟨rfl, rfl⟩)
    go_ret
    exact ⟨ret_int e1.out.symm, rfl⟩

end Go.Proofs.YtjdeeloemhjbhaaGreat
end

section
namespace Go.Proofs.YtjdeeloemhjbhaaGreat
open Go.RowKit Go.Sep Go.Vm

def Rc (p : Nat) (m : RM) : Asn := exA fun (r : Option Addr × Nat) => star (blk p (rvals m r.1 r.2) 140) (slc 21 1 r.1 m.st.length r.2 (iv m.st.reverse))
theorem Rc_open {W0 w : World} {L : List Asn} {p : Nat} {m : RM} : Sat W0 w (Rc p m :: L) ↔ ∃ ao cap, Sat W0 w (blk p (rvals m ao cap) 140 :: slc 21 1 ao m.st.length cap (iv m.st.reverse) :: L) := by
  unfold Rc
  constructor
  · intro h
    obtain ⟨⟨ao, cap⟩, h⟩ := Sat.ex.1 h
    exact ⟨ao, cap, Sat.star.1 h⟩
  · rintro ⟨ao, cap, h⟩
    exact Sat.ex.2 ⟨(ao, cap), Sat.star.2 h⟩


/-- the machine's cells, as the walk wants them -/
structure RcAt (w : World) (p : Nat) (m : RM) (ao : Option Addr) (cap : Nat) : Prop where
  frame : w.cell? ⟨p, 0, none⟩ = some (.int .i64 m.s.frame)
  seed : w.cell? ⟨p, 17, none⟩ = some (.int .u32 m.s.seed)
  over : w.cell? ⟨p, 18, none⟩ = some (.bool m.s.over)
  winner : w.cell? ⟨p, 19, none⟩ = some (.int .i64 m.s.winner)
  i0 : w.cell? ⟨p, 20, none⟩ = some (.int .u16 m.i0)
  i1 : w.cell? ⟨p, 21, none⟩ = some (.int .u16 m.i1)
  st : w.cell? ⟨p, 22, none⟩ = some (.slice ao m.st.length cap)
  pc : w.cell? ⟨p, 23, none⟩ = some (.int .i64 m.pc)
  won : w.cell? ⟨p, 24, none⟩ = some (.int .i64 m.won)
  bad : w.cell? ⟨p, 25, none⟩ = some (.bool m.bad)
  cells : ∀ k, k < 16 → w.cell? ⟨p, 1 + k, none⟩ = some (.int .i32 (m.s.cells[k]?.getD 0))
  free : ∀ k, w.frozen? ⟨p, k, none⟩ = false
theorem rc_at {W0 w : World} {L : List Asn} {p : Nat} {m : RM} {ao : Option Addr} {cap : Nat} (h : m.s.cells.length = 16) (S : Sat W0 w (blk p (rvals m ao cap) 140 :: L)) : RcAt w p m ao cap :=
  ⟨S.cell 0 rfl 0, (S.cell 0 rfl 17).trans (rvals_tail h 0), (S.cell 0 rfl 18).trans (rvals_tail h 1), (S.cell 0 rfl 19).trans (rvals_tail h 2), (S.cell 0 rfl 20).trans (rvals_tail h 3), (S.cell 0 rfl 21).trans (rvals_tail h 4),
   (S.cell 0 rfl 22).trans (rvals_tail h 5), (S.cell 0 rfl 23).trans (rvals_tail h 6), (S.cell 0 rfl 24).trans (rvals_tail h 7), (S.cell 0 rfl 25).trans (rvals_tail h 8), fun k hk => (S.cell 0 rfl (1 + k)).trans (rvals_cell h hk), fun k => S.frozen 0 rfl k⟩

theorem rc_seed {W0 w : World} {L : List Asn} {p : Nat} {m : RM} {ao : Option Addr} {cap : Nat} (h : m.s.cells.length = 16) (S : Sat W0 w (blk p (rvals m ao cap) 140 :: L)) (v : Int) : Sat W0 (w.setCell ⟨p, 17, none⟩ (.int .u32 v)) (blk p (rvals { m with s := { m.s with seed := v } } ao cap) 140 :: L) := by
  rw [← rvals_seed h]; exact S.setCell 0 rfl
theorem rc_over {W0 w : World} {L : List Asn} {p : Nat} {m : RM} {ao : Option Addr} {cap : Nat} (h : m.s.cells.length = 16) (S : Sat W0 w (blk p (rvals m ao cap) 140 :: L)) (v : Bool) : Sat W0 (w.setCell ⟨p, 18, none⟩ (.bool v)) (blk p (rvals { m with s := { m.s with over := v } } ao cap) 140 :: L) := by
  rw [← rvals_over h]; exact S.setCell 0 rfl
theorem rc_winner {W0 w : World} {L : List Asn} {p : Nat} {m : RM} {ao : Option Addr} {cap : Nat} (h : m.s.cells.length = 16) (S : Sat W0 w (blk p (rvals m ao cap) 140 :: L)) (v : Int) : Sat W0 (w.setCell ⟨p, 19, none⟩ (.int .i64 v)) (blk p (rvals { m with s := { m.s with winner := v } } ao cap) 140 :: L) := by
  rw [← rvals_winner h]; exact S.setCell 0 rfl
theorem rc_st {W0 w : World} {L : List Asn} {p : Nat} {m : RM} {ao : Option Addr} {cap : Nat} (h : m.s.cells.length = 16) (S : Sat W0 w (blk p (rvals m ao cap) 140 :: L)) (st : List Int) (ao' : Option Addr) (cap' : Nat) : Sat W0 (w.setCell ⟨p, 22, none⟩ (.slice ao' st.length cap')) (blk p (rvals { m with st := st } ao' cap') 140 :: L) := by
  rw [← rvals_st h]; exact S.setCell 0 rfl
theorem rc_pc {W0 w : World} {L : List Asn} {p : Nat} {m : RM} {ao : Option Addr} {cap : Nat} (h : m.s.cells.length = 16) (S : Sat W0 w (blk p (rvals m ao cap) 140 :: L)) (v : Int) : Sat W0 (w.setCell ⟨p, 23, none⟩ (.int .i64 v)) (blk p (rvals { m with pc := v } ao cap) 140 :: L) := by
  rw [← rvals_pc h]; exact S.setCell 0 rfl
theorem rc_won {W0 w : World} {L : List Asn} {p : Nat} {m : RM} {ao : Option Addr} {cap : Nat} (h : m.s.cells.length = 16) (S : Sat W0 w (blk p (rvals m ao cap) 140 :: L)) (v : Int) : Sat W0 (w.setCell ⟨p, 24, none⟩ (.int .i64 v)) (blk p (rvals { m with won := v } ao cap) 140 :: L) := by
  rw [← rvals_won h]; exact S.setCell 0 rfl
theorem rc_bad {W0 w : World} {L : List Asn} {p : Nat} {m : RM} {ao : Option Addr} {cap : Nat} (h : m.s.cells.length = 16) (S : Sat W0 w (blk p (rvals m ao cap) 140 :: L)) (v : Bool) : Sat W0 (w.setCell ⟨p, 25, none⟩ (.bool v)) (blk p (rvals { m with bad := v } ao cap) 140 :: L) := by
  rw [← rvals_bad h]; exact S.setCell 0 rfl
theorem rc_set {W0 w : World} {L : List Asn} {p : Nat} {m : RM} {ao : Option Addr} {cap : Nat} (h : m.s.cells.length = 16) (S : Sat W0 w (blk p (rvals m ao cap) 140 :: L)) {k : Nat} (hk : k < 16) (v : Int) : Sat W0 (w.setCell ⟨p, 1 + k, none⟩ (.int .i32 v)) (blk p (rvals { m with s := { m.s with cells := m.s.cells.set k v } } ao cap) 140 :: L) := by
  rw [← rvals_set h hk]; exact S.setCell 0 rfl

theorem rc_frame {W0 w : World} {L : List Asn} {p : Nat} {m : RM} {ao : Option Addr} {cap : Nat} (S : Sat W0 w (blk p (rvals m ao cap) 140 :: L)) (v : Int) : Sat W0 (w.setCell ⟨p, 0, none⟩ (.int .i64 v)) (blk p (rvals { m with s := { m.s with frame := v } } ao cap) 140 :: L) := by
  rw [← rvals_frame]; exact S.setCell 0 rfl

set_option maxRecDepth 100000 in
theorem rpop_nil {W0 w : World} {L : List Asn} {p : Nat} {m : RM} (h : m.s.cells.length = 16) (S : Sat W0 w (Rc p m :: L)) (h0 : m.st = []) :
    Calls Tryz.prog 84 #[.pointer (some ⟨p, 0, none⟩)] w fun e w' => e = .returned (.int .i32 0) ∧ Sat W0 w' (Rc p { m with bad := true } :: L) := by
  obtain ⟨ao, cap, S'⟩ := Rc_open.1 S
  have hM := rc_at h S'
  have c1 := hM.st
  have f25 := hM.free 25
  have c25 := hM.bad
  rw [h0] at c1
  have S2 := rc_bad h S' true
  clear hM
  go_enter Tryz.func84, Tryz.ntmps84
  go_wp2_with fail
  go_ret
  exact ⟨rfl, Rc_open.2 ⟨ao, cap, S2⟩⟩

set_option maxRecDepth 100000 in
theorem rpop_cons {W0 w : World} {L : List Asn} {p : Nat} {m : RM} (h : m.s.cells.length = 16) (S : Sat W0 w (Rc p m :: L)) {v : Int} {r : List Int} (h0 : m.st = v :: r) :
    Calls Tryz.prog 84 #[.pointer (some ⟨p, 0, none⟩)] w fun e w' => e = .returned (.int .i32 v) ∧ Sat W0 w' (Rc p { m with st := r } :: L) := by
  obtain ⟨ao, cap, S'⟩ := Rc_open.1 S
  have hM := rc_at h S'
  have c22 := hM.st
  have f22 := hM.free 22
  have hlen := (S'.sel [1]).own_len
  have hcap := hlen.2.1
  have hmx := hlen.2.2.1
  unfold maxLen at hmx
  rw [h0, List.length_cons] at hcap
  rw [h0, List.length_cons] at c22
  have S1 := S'.sel [1]
  rw [h0, List.reverse_cons, iv_append, List.length_cons] at S1
  cases ao with
  | none => have := (Sat.own_none.1 S1).1; omega
  | some ad =>
    obtain ⟨b, off, rfl⟩ := S1.own_addr
    obtain ⟨cv, _⟩ := S1.own_cell (i := r.length) (u := .int .i32 v) (by rw [List.getElem?_append_right (by rw [iv_length]; simp), iv_length]; simp [iv])
    have S2 := (S1.own_shrink (by rw [iv_length]; simp)).sel [1]
    have S3 := rc_st h S2 r (some ⟨b, off, none⟩) cap
    have hz : (((r.length + 1 : Nat) : Int) == 0) = false := by rw [beq_eq_false_iff_ne]; omega
    clear hM hlen S' S1 S2
    go_enter Tryz.func84, Tryz.ntmps84
    go_wp2_with fail
    go_ret
    exact ⟨rfl, Rc_open.2 ⟨_, cap, S3⟩⟩

theorem rpop_any {W0 w : World} {L : List Asn} {p : Nat} {m : RM} (h : m.s.cells.length = 16) (S : Sat W0 w (Rc p m :: L)) {v : Int} {m' : RM} (hp : m.pop = (v, m')) :
    Calls Tryz.prog 84 #[.pointer (some ⟨p, 0, none⟩)] w fun e w' => e = .returned (.int .i32 v) ∧ Sat W0 w' (Rc p m' :: L) := by
  obtain ⟨s, i0, i1, st, pc, wn, bd⟩ := m
  cases st with
  | nil => cases hp; exact rpop_nil h S rfl
  | cons x r => cases hp; exact rpop_cons h S rfl


theorem rpop_len {m : RM} (h : m.s.cells.length = 16) {v : Int} {m' : RM} (hp : m.pop = (v, m')) : m'.s.cells.length = 16 := by
  unfold RM.pop at hp
  split at hp <;> (cases hp; exact h)
theorem rpop_val {m : RM} (hs : ∀ c ∈ m.st, -2147483648 ≤ c ∧ c ≤ 2147483647) {v : Int} {m' : RM} (hp : m.pop = (v, m')) : (-2147483648 ≤ v ∧ v ≤ 2147483647) ∧ ∀ c ∈ m'.st, -2147483648 ≤ c ∧ c ≤ 2147483647 := by
  unfold RM.pop at hp
  split at hp
  · rename_i h0
    cases hp
    exact ⟨by omega, by simp [h0]⟩
  · rename_i x r h0
    cases hp
    rw [h0] at hs
    exact ⟨hs _ (by simp), fun c hc => hs c (by simp [hc])⟩
theorem rpush_len {m : RM} (h : m.s.cells.length = 16) (v : Int) : (m.push v).s.cells.length = 16 := by
  unfold RM.push
  split <;> exact h

set_option maxRecDepth 100000 in
theorem rpush_any {W0 w : World} {L : List Asn} {p : Nat} {m : RM} (h : m.s.cells.length = 16) (S : Sat W0 w (Rc p m :: L)) (v : Int) :
    Calls Tryz.prog 83 #[.pointer (some ⟨p, 0, none⟩), .int .i32 v] w fun e w' => e = .returned (.tuple #[]) ∧ Sat W0 w' (Rc p (m.push v) :: L) := by
  obtain ⟨ao, cap, S'⟩ := Rc_open.1 S
  have hM := rc_at h S'
  have c22 := hM.st
  have hl0 : (0 : Int) ≤ (m.st.length : Int) := Int.natCast_nonneg _
  by_cases hbig : 32 ≤ m.st.length
  · have e5 : m.push v = { m with bad := true } := by unfold RM.push; rw [if_pos hbig]
    have c25 := hM.bad
    have f25 := hM.free 25
    have S2 := rc_bad h S' true
    have E5 := Lib.hid e5
    clear e5 hM
    go_enter Tryz.func83, Tryz.ntmps83
    go_wp2_with fail
    refine bodyPost_ret (results_none rfl _ _ _) rfl ?_
    exact ⟨rfl, by rw [E5.out]; exact Rc_open.2 ⟨ao, cap, S2⟩⟩
  · have e5 : m.push v = { m with st := v :: m.st } := by unfold RM.push; rw [if_neg hbig]
    have E5 := Lib.hid e5
    obtain ⟨i0, hi, hz0, hz1, hz2⟩ := info_parts Tryz.infoI32
    have e2 : iv m.st.reverse ++ [Value.int .i32 v] = iv (v :: m.st).reverse := by rw [List.reverse_cons, iv_append]; rfl
    have E2 := Lib.hid e2
    have hmx : m.st.length ≤ 31 := by omega
    clear e5 hM e2
    have S1 := S'.alloc [.int .i32 v] 21
    go_enter Tryz.func83, Tryz.ntmps83
    go_wp2_with (at_builtin; refine wpList_append_sat rfl (.tmp 17) (.tmp 19) _ rfl 21 i0 (.int .i32 0) 1 4 Tryz.underlying138 hi hz0 hz1 hz2 rfl (by decide) (S1.sel [2]) rfl rfl (Rd.lit (S1.block 0 rfl).1) rfl (iv_one [v]) (by unfold maxLen; omega) (by omega) ?_; intro ao2 cap2 w2 S2; rw [E2.out] at S2; have hM2 := rc_at h ((S2.sel [1]).tail.sel [1]); have c22' := hM2.st; have f22 := hM2.free 22; clear hM2)
    go_end0
    refine ⟨rfl, ?_⟩
    rw [E5.out]
    refine Rc_open.2 ⟨ao2, cap2, ?_⟩
    exact rc_st h ((S2.sel [1]).tail.sel [1]) (v :: m.st) ao2 cap2

theorem rtruth_any (w : World) (b : Bool) : Calls Tryz.prog 85 #[.bool b] w fun e w' => e = .returned (.int .i32 (truth b)) ∧ w = w' := by
  cases b
  all_goals
    go_enter Tryz.func85, Tryz.ntmps85
    go_wp2_with fail
    go_ret
    exact ⟨rfl, rfl⟩
set_option maxRecDepth 100000 in
theorem takes_any (w : World) (op : Int) (hop : 1 ≤ op ∧ op ≤ 22) : Calls Tryz.prog 82 #[.int .i64 op] w fun e w' => e = .returned (.int .i64 (takesP op)) ∧ w = w' := by
  have hc : op = 1 ∨ op = 2 ∨ op = 3 ∨ op = 4 ∨ op = 5 ∨ op = 6 ∨ op = 7 ∨ op = 8 ∨ op = 9 ∨ op = 10 ∨ op = 11 ∨ op = 12 ∨ op = 13 ∨ op = 14 ∨ op = 15 ∨ op = 16 ∨ op = 17 ∨ op = 18 ∨ op = 19 ∨ op = 20 ∨ op = 21 ∨ op = 22 := by omega
  rcases hc with rfl | rfl | rfl | rfl | rfl | rfl | rfl | rfl | rfl | rfl | rfl | rfl | rfl | rfl | rfl | rfl | rfl | rfl | rfl | rfl | rfl | rfl
  all_goals
    go_enter Tryz.func82, Tryz.ntmps82
    go_wp2_with fail
    go_ret
    exact ⟨rfl, rfl⟩
set_option maxRecDepth 100000 in
theorem rtwo_any (w : World) (op b a : Int) (hop : 4 ≤ op ∧ op ≤ 11) (hb : -2147483648 ≤ b ∧ b ≤ 2147483647) (ha : -2147483648 ≤ a ∧ a ≤ 2147483647) :
    Calls Tryz.prog 86 #[.int .i64 op, .int .i32 b, .int .i32 a] w fun e w' => e = .returned (.int .i32 (op2 op b a)) ∧ w = w' := by
  have hc : op = 4 ∨ op = 5 ∨ op = 6 ∨ op = 7 ∨ op = 8 ∨ op = 9 ∨ op = 10 ∨ op = 11 := by omega
  rcases hc with rfl | rfl | rfl | rfl | rfl | rfl | rfl | rfl
  · go_enter Tryz.func86, Tryz.ntmps86
    go_wp2_with (go_at_call 89; refine (r8add_any _ b a hb ha).mono ?_; rintro e w1 ⟨rfl, rfl⟩)
    go_ret
    exact ⟨rfl, rfl⟩
  · go_enter Tryz.func86, Tryz.ntmps86
    go_wp2_with (go_at_call 90; refine (r8sub_any _ b a hb ha).mono ?_; rintro e w1 ⟨rfl, rfl⟩)
    go_ret
    exact ⟨rfl, rfl⟩
  · go_enter Tryz.func86, Tryz.ntmps86
    go_wp2_with (go_at_call 91; refine (r8mul_any _ b a hb ha).mono ?_; rintro e w1 ⟨rfl, rfl⟩)
    go_ret
    exact ⟨rfl, rfl⟩
  · go_enter Tryz.func86, Tryz.ntmps86
    go_wp2_with (go_at_call 92; refine (r8div_any _ b a hb ha).mono ?_; rintro e w1 ⟨rfl, rfl⟩)
    go_ret
    exact ⟨rfl, rfl⟩
  · go_enter Tryz.func86, Tryz.ntmps86
    go_wp2_with fail
    all_goals
      go_ret
      exact ⟨ret_int (by show _ = min b a; omega), rfl⟩
  · go_enter Tryz.func86, Tryz.ntmps86
    go_wp2_with fail
    all_goals
      go_ret
      exact ⟨ret_int (by show _ = max b a; omega), rfl⟩
  · go_enter Tryz.func86, Tryz.ntmps86
    go_wp2_with (go_at_call 85; refine (rtruth_any _ (decide (b < a))).mono ?_; rintro e w1 ⟨rfl, rfl⟩)
    go_ret
    exact ⟨rfl, rfl⟩
  · go_enter Tryz.func86, Tryz.ntmps86
    go_wp2_with (go_at_call 85; refine (rtruth_any _ (b == a)).mono ?_; rintro e w1 ⟨rfl, rfl⟩)
    go_ret
    exact ⟨rfl, rfl⟩
end Go.Proofs.YtjdeeloemhjbhaaGreat
end

section
namespace Go.Proofs.YtjdeeloemhjbhaaGreat
open Go.RowKit Go.Sep Go.Vm
set_option linter.unusedSimpArgs false

def DoesPost (W0 : World) (L : List Asn) (p : Nat) (r : Bool × RM) (e : Ending) (w' : World) : Prop := e = .returned (.bool r.1) ∧ Sat W0 w' (Rc p r.2 :: L)
structure RM.Ok (m : RM) : Prop where
  len : m.s.cells.length = 16
  st : ∀ c ∈ m.st, -2147483648 ≤ c ∧ c ≤ 2147483647
  i0 : 0 ≤ m.i0 ∧ m.i0 < 65536
  i1 : 0 ≤ m.i1 ∧ m.i1 < 65536
  seed : 0 ≤ m.s.seed ∧ m.s.seed < 4294967296
  frame : 0 ≤ m.s.frame ∧ m.s.frame ≤ 600
  stl : m.st.length ≤ 32
theorem and_u32_low {x : Int} (h0 : 0 ≤ x) (h1 : x < 4294967296) : bits .and .u32 x 65535 = x % 65536 := by
  rw [u32_and _ _ h0 h1 (by omega) (by omega)]
  obtain ⟨n, rfl⟩ := Int.eq_ofNat_of_zero_le h0
  rw [Int.toNat_natCast, show (65535 : Int).toNat = 2 ^ 16 - 1 from rfl, Nat.and_two_pow_sub_one_eq_mod]
  simp

theorem actP_len {op arg : Int} {m : RM} (h : m.s.cells.length = 16) : (actP op arg m).s.cells.length = 16 := by
  have hp : ∀ m : RM, m.s.cells.length = 16 → m.pop.2.s.cells.length = 16 := by
    intro m h; unfold RM.pop; split <;> exact h
  have h1 := hp m h
  have h2 := hp m.pop.2 h1
  unfold actP
  by_cases e0 : op = 1
  · rw [if_pos e0]
    exact rpush_len h _
  rw [if_neg e0]
  by_cases e1 : op = 2
  · rw [if_pos e1]
    exact rpush_len h _
  rw [if_neg e1]
  by_cases e2 : op = 3
  · rw [if_pos e2]
    show (m.pop.2.s.cells.set _ _).length = 16
    rw [List.length_set]; exact h1
  rw [if_neg e2]
  by_cases e3 : op ≤ 11
  · rw [if_pos e3]
    exact rpush_len h2 _
  rw [if_neg e3]
  by_cases e4 : op = 12
  · rw [if_pos e4]
    exact rpush_len h1 _
  rw [if_neg e4]
  by_cases e5 : op = 13
  · rw [if_pos e5]
    exact rpush_len (rpush_len h1 _) _
  rw [if_neg e5]
  by_cases e6 : op = 14
  · rw [if_pos e6]
    exact rpush_len (rpush_len h2 _) _
  rw [if_neg e6]
  by_cases e7 : op = 15
  · rw [if_pos e7]
    exact h1
  rw [if_neg e7]
  by_cases e8 : op = 16
  · rw [if_pos e8]
    exact rpush_len h _
  rw [if_neg e8]
  by_cases e9 : op = 17
  · rw [if_pos e9]
    exact rpush_len h _
  rw [if_neg e9]
  by_cases e10 : op = 18
  · rw [if_pos e10]
    exact h
  rw [if_neg e10]
  by_cases e11 : op = 19
  · rw [if_pos e11]
    show (if m.pop.1 = 0 then ({ m.pop.2 with pc := arg } : RM) else m.pop.2).s.cells.length = 16
    by_cases hz : m.pop.1 = 0
    · rw [if_pos hz]; exact h1
    · rw [if_neg hz]; exact h1
  rw [if_neg e11]
  exact rpush_len (m := { m with s := { m.s with seed := nextSeed m.s.seed } }) h _

end Go.Proofs.YtjdeeloemhjbhaaGreat
end

section
namespace Go.Proofs.YtjdeeloemhjbhaaGreat
open Go.RowKit Go.Sep Go.Vm
set_option linter.unusedSimpArgs false
set_option linter.unusedVariables false

set_option maxRecDepth 100000 in
set_option maxHeartbeats 6400000 in
theorem does_op1 {W0 w : World} {L : List Asn} {p : Nat} {m : RM} (S : Sat W0 w (Rc p m :: L)) (hm : RM.Ok m) (hpc : 0 ≤ m.pc ∧ m.pc ≤ 300) {arg : Int} {n : Nat} (hmay : mayP 1 arg n = true) (hfew : ¬ m.st.length < takesP 1) :
    Calls Tryz.prog 71 #[.pointer (some ⟨p, 0, none⟩), .agg #[.int .i64 1, .int .i64 arg], .int .i64 n] w (DoesPost W0 L p (doesP 1 arg n m)) := by
  have S1 : Sat W0 (w.alloc (.cells #[.int .i64 1, .int .i64 arg] 95)) (Rc p m :: blk w.heap.size [.int .i64 1, .int .i64 arg] 95 :: L) := (S.alloc [.int .i64 1, .int .i64 arg] 95).sel [1]
  obtain ⟨ao, cap, S2⟩ := Rc_open.1 S1
  have h := hm.len
  have c22 := (rc_at h S2).st
  have hf : ¬ (m.st.length : Int) < (takesP 1 : Int) := by omega
  have HE := Lib.hid (doesP_act (n := n) (arg := arg) (m := m) hfew (by decide) (by decide))
  have hm1 : RM.Ok { m with pc := m.pc + 1 } := ⟨hm.len, hm.st, hm.i0, hm.i1, hm.seed, hm.frame, hm.stl⟩
  have HT : Hid (takesP 1 = takesP 1) := rfl
  generalize htk : takesP 1 = tk at hf hfew HT
  have htk' := Lib.hid htk
  clear hfew htk HT
  go_enter Tryz.func71, Tryz.ntmps71
  go_wp2_with fail
  go_quiet (first | (go_at_call 82; exact Calls.quiet_of_same ((takes_any _ 1 ⟨by decide, by decide⟩).mono fun _ _ ⟨a, b⟩ => ⟨a.trans (by rw [htk'.out]), b.symm⟩)))
  have S3 := S1.drewN nq
  generalize (w.alloc (.cells #[.int .i64 1, .int .i64 arg] 95)).drewN nq = w3 at S3 ⊢
  generalize w.heap.size = y at S3 ⊢
  obtain ⟨ao3, cap3, S4⟩ := Rc_open.1 S3
  have hA := rc_at h S4
  have xc := S3.cell 1 rfl 0
  have xa := S3.cell 1 rfl 1
  simp only [List.getElem?_cons_zero, List.getElem?_cons_succ] at xc xa
  have c23 := hA.pc
  have f23 := hA.free 23
  have S5 := Rc_open.2 ⟨ao3, cap3, rc_pc h S4 (m.pc + 1)⟩
  clear hA
  go_upto_block 0 with fail
  generalize w3.setCell ⟨p, 23, none⟩ (.int .i64 (m.pc + 1)) = w6 at S5 ⊢
  obtain ⟨m1, hm1e⟩ : ∃ m1 : RM, m1 = { m with pc := m.pc + 1 } := ⟨_, rfl⟩
  have S6 : Sat W0 w6 (Rc p m1 :: blk y [.int .i64 1, .int .i64 arg] 95 :: L) := by rw [hm1e]; exact S5
  rw [← hm1e] at hm1 HE
  clear S5 S4 S3 S2 S1 S c22 c23 f23 xc xa hf hpc h hm hm1e
  have xc := S6.cell 1 rfl 0
  have xa := S6.cell 1 rfl 1
  simp only [List.getElem?_cons_zero, List.getElem?_cons_succ] at xc xa
  have hl := hm1.len
  go_cut [] (fun wx => ∃ m2, m2 = actP 1 arg m1 ∧ Sat W0 wx (Rc p m2 :: blk y [.int .i64 1, .int .i64 arg] 95 :: L))
  case first =>
    clear HE
    have ha : -2147483648 ≤ arg ∧ arg ≤ 2147483647 := by rw [may1] at hmay; exact of_decide_eq_true hmay
    go_wp2_with (go_at_call 83; refine (rpush_any hl S6 arg).mono ?_; rintro e w' ⟨rfl, S7⟩)
    go_meet
    exact ⟨_, rfl, S7⟩
  case rest =>
    obtain ⟨m2, hm2, S7⟩ := hcut
    have h2 : m2.s.cells.length = 16 := by rw [hm2]; exact actP_len hl
    rw [← hm2] at HE
    obtain ⟨ao4, cap4, S8⟩ := Rc_open.1 S7
    have hB := rc_at h2 S8
    have c25 := hB.bad
    have c23 := hB.pc
    clear hB hm2
    cases hbd : m2.bad with
    | true =>
      rw [hbd] at c25 HE
      go_wp2_with fail
      go_ret
      unfold DoesPost
      rw [HE.out]
      exact ⟨rfl, (S7.sel [1]).tail⟩
    | false =>
      rw [hbd] at c25 HE
      go_wp2_with fail
      go_ret
      unfold DoesPost
      rw [HE.out]
      exact ⟨by simp, (S7.sel [1]).tail⟩

set_option maxRecDepth 100000 in
set_option maxHeartbeats 6400000 in
theorem does_op2 {W0 w : World} {L : List Asn} {p : Nat} {m : RM} (S : Sat W0 w (Rc p m :: L)) (hm : RM.Ok m) (hpc : 0 ≤ m.pc ∧ m.pc ≤ 300) {arg : Int} {n : Nat} (hmay : mayP 2 arg n = true) (hfew : ¬ m.st.length < takesP 2) :
    Calls Tryz.prog 71 #[.pointer (some ⟨p, 0, none⟩), .agg #[.int .i64 2, .int .i64 arg], .int .i64 n] w (DoesPost W0 L p (doesP 2 arg n m)) := by
  have S1 : Sat W0 (w.alloc (.cells #[.int .i64 2, .int .i64 arg] 95)) (Rc p m :: blk w.heap.size [.int .i64 2, .int .i64 arg] 95 :: L) := (S.alloc [.int .i64 2, .int .i64 arg] 95).sel [1]
  obtain ⟨ao, cap, S2⟩ := Rc_open.1 S1
  have h := hm.len
  have c22 := (rc_at h S2).st
  have hf : ¬ (m.st.length : Int) < (takesP 2 : Int) := by omega
  have HE := Lib.hid (doesP_act (n := n) (arg := arg) (m := m) hfew (by decide) (by decide))
  have hm1 : RM.Ok { m with pc := m.pc + 1 } := ⟨hm.len, hm.st, hm.i0, hm.i1, hm.seed, hm.frame, hm.stl⟩
  have HT : Hid (takesP 2 = takesP 2) := rfl
  generalize htk : takesP 2 = tk at hf hfew HT
  have htk' := Lib.hid htk
  clear hfew htk HT
  go_enter Tryz.func71, Tryz.ntmps71
  go_wp2_with fail
  go_quiet (first | (go_at_call 82; exact Calls.quiet_of_same ((takes_any _ 2 ⟨by decide, by decide⟩).mono fun _ _ ⟨a, b⟩ => ⟨a.trans (by rw [htk'.out]), b.symm⟩)))
  have S3 := S1.drewN nq
  generalize (w.alloc (.cells #[.int .i64 2, .int .i64 arg] 95)).drewN nq = w3 at S3 ⊢
  generalize w.heap.size = y at S3 ⊢
  obtain ⟨ao3, cap3, S4⟩ := Rc_open.1 S3
  have hA := rc_at h S4
  have xc := S3.cell 1 rfl 0
  have xa := S3.cell 1 rfl 1
  simp only [List.getElem?_cons_zero, List.getElem?_cons_succ] at xc xa
  have c23 := hA.pc
  have f23 := hA.free 23
  have S5 := Rc_open.2 ⟨ao3, cap3, rc_pc h S4 (m.pc + 1)⟩
  clear hA
  go_upto_block 0 with fail
  generalize w3.setCell ⟨p, 23, none⟩ (.int .i64 (m.pc + 1)) = w6 at S5 ⊢
  obtain ⟨m1, hm1e⟩ : ∃ m1 : RM, m1 = { m with pc := m.pc + 1 } := ⟨_, rfl⟩
  have S6 : Sat W0 w6 (Rc p m1 :: blk y [.int .i64 2, .int .i64 arg] 95 :: L) := by rw [hm1e]; exact S5
  rw [← hm1e] at hm1 HE
  clear S5 S4 S3 S2 S1 S c22 c23 f23 xc xa hf hpc h hm hm1e
  have xc := S6.cell 1 rfl 0
  have xa := S6.cell 1 rfl 1
  simp only [List.getElem?_cons_zero, List.getElem?_cons_succ] at xc xa
  have hl := hm1.len
  go_cut [] (fun wx => ∃ m2, m2 = actP 2 arg m1 ∧ Sat W0 wx (Rc p m2 :: blk y [.int .i64 2, .int .i64 arg] 95 :: L))
  case first =>
    clear HE
    have ha : 0 ≤ arg ∧ arg ≤ 15 := by rw [may2] at hmay; exact of_decide_eq_true hmay
    obtain ⟨k, rfl⟩ : ∃ k : Nat, arg = (k : Int) := ⟨arg.toNat, by omega⟩
    have k0 : (0 : Int) ≤ (k : Int) := Int.natCast_nonneg _
    have k1 : (k : Int) < 16 := by omega
    obtain ⟨ao2, cap2, S7⟩ := Rc_open.1 S6.drew
    have c1 := (rc_at hl S7).cells k (by omega)
    have HV : Hid (actP 2 k m1 = m1.push (m1.s.cells[k]?.getD 0)) := rfl
    generalize m1.s.cells[k]?.getD 0 = v at c1 HV
    go_wp2_with fail
    go_region_with (go_at_call 83; refine (rpush_any hl S6.drew v).mono ?_; rintro e w' ⟨rfl, S8⟩)
    all_goals
      go_wp2_with fail
      go_meet
      exact ⟨_, rfl, by rw [HV.out]; exact S8⟩
  case rest =>
    obtain ⟨m2, hm2, S7⟩ := hcut
    have h2 : m2.s.cells.length = 16 := by rw [hm2]; exact actP_len hl
    rw [← hm2] at HE
    obtain ⟨ao4, cap4, S8⟩ := Rc_open.1 S7
    have hB := rc_at h2 S8
    have c25 := hB.bad
    have c23 := hB.pc
    clear hB hm2
    cases hbd : m2.bad with
    | true =>
      rw [hbd] at c25 HE
      go_wp2_with fail
      go_ret
      unfold DoesPost
      rw [HE.out]
      exact ⟨rfl, (S7.sel [1]).tail⟩
    | false =>
      rw [hbd] at c25 HE
      go_wp2_with fail
      go_ret
      unfold DoesPost
      rw [HE.out]
      exact ⟨by simp, (S7.sel [1]).tail⟩

set_option maxRecDepth 100000 in
set_option maxHeartbeats 6400000 in
theorem does_op15 {W0 w : World} {L : List Asn} {p : Nat} {m : RM} (S : Sat W0 w (Rc p m :: L)) (hm : RM.Ok m) (hpc : 0 ≤ m.pc ∧ m.pc ≤ 300) {arg : Int} {n : Nat} (hmay : mayP 15 arg n = true) (hfew : ¬ m.st.length < takesP 15) :
    Calls Tryz.prog 71 #[.pointer (some ⟨p, 0, none⟩), .agg #[.int .i64 15, .int .i64 arg], .int .i64 n] w (DoesPost W0 L p (doesP 15 arg n m)) := by
  have S1 : Sat W0 (w.alloc (.cells #[.int .i64 15, .int .i64 arg] 95)) (Rc p m :: blk w.heap.size [.int .i64 15, .int .i64 arg] 95 :: L) := (S.alloc [.int .i64 15, .int .i64 arg] 95).sel [1]
  obtain ⟨ao, cap, S2⟩ := Rc_open.1 S1
  have h := hm.len
  have c22 := (rc_at h S2).st
  have hf : ¬ (m.st.length : Int) < (takesP 15 : Int) := by omega
  have HE := Lib.hid (doesP_act (n := n) (arg := arg) (m := m) hfew (by decide) (by decide))
  have hm1 : RM.Ok { m with pc := m.pc + 1 } := ⟨hm.len, hm.st, hm.i0, hm.i1, hm.seed, hm.frame, hm.stl⟩
  have HT : Hid (takesP 15 = takesP 15) := rfl
  generalize htk : takesP 15 = tk at hf hfew HT
  have htk' := Lib.hid htk
  clear hfew htk HT
  go_enter Tryz.func71, Tryz.ntmps71
  go_wp2_with fail
  go_quiet (first | (go_at_call 82; exact Calls.quiet_of_same ((takes_any _ 15 ⟨by decide, by decide⟩).mono fun _ _ ⟨a, b⟩ => ⟨a.trans (by rw [htk'.out]), b.symm⟩)))
  have S3 := S1.drewN nq
  generalize (w.alloc (.cells #[.int .i64 15, .int .i64 arg] 95)).drewN nq = w3 at S3 ⊢
  generalize w.heap.size = y at S3 ⊢
  obtain ⟨ao3, cap3, S4⟩ := Rc_open.1 S3
  have hA := rc_at h S4
  have xc := S3.cell 1 rfl 0
  have xa := S3.cell 1 rfl 1
  simp only [List.getElem?_cons_zero, List.getElem?_cons_succ] at xc xa
  have c23 := hA.pc
  have f23 := hA.free 23
  have S5 := Rc_open.2 ⟨ao3, cap3, rc_pc h S4 (m.pc + 1)⟩
  clear hA
  go_upto_block 0 with fail
  generalize w3.setCell ⟨p, 23, none⟩ (.int .i64 (m.pc + 1)) = w6 at S5 ⊢
  obtain ⟨m1, hm1e⟩ : ∃ m1 : RM, m1 = { m with pc := m.pc + 1 } := ⟨_, rfl⟩
  have S6 : Sat W0 w6 (Rc p m1 :: blk y [.int .i64 15, .int .i64 arg] 95 :: L) := by rw [hm1e]; exact S5
  rw [← hm1e] at hm1 HE
  clear S5 S4 S3 S2 S1 S c22 c23 f23 xc xa hf hpc h hm hm1e
  have xc := S6.cell 1 rfl 0
  have xa := S6.cell 1 rfl 1
  simp only [List.getElem?_cons_zero, List.getElem?_cons_succ] at xc xa
  have hl := hm1.len
  go_cut [] (fun wx => ∃ m2, m2 = actP 15 arg m1 ∧ Sat W0 wx (Rc p m2 :: blk y [.int .i64 15, .int .i64 arg] 95 :: L))
  case first =>
    clear HE
    obtain ⟨v, m', hp⟩ : ∃ v m', m1.pop = (v, m') := ⟨_, _, rfl⟩
    have HV : Hid (actP 15 arg m1 = m') := by show _ = _; show m1.pop.2 = _; rw [hp]
    have HP := Lib.hid hp
    clear hp
    go_wp2_with (go_at_call 84; refine (rpop_any hl S6 HP.out).mono ?_; rintro e w' ⟨rfl, S7⟩)
    go_meet
    exact ⟨_, rfl, by rw [HV.out]; exact S7⟩
  case rest =>
    obtain ⟨m2, hm2, S7⟩ := hcut
    have h2 : m2.s.cells.length = 16 := by rw [hm2]; exact actP_len hl
    rw [← hm2] at HE
    obtain ⟨ao4, cap4, S8⟩ := Rc_open.1 S7
    have hB := rc_at h2 S8
    have c25 := hB.bad
    have c23 := hB.pc
    clear hB hm2
    cases hbd : m2.bad with
    | true =>
      rw [hbd] at c25 HE
      go_wp2_with fail
      go_ret
      unfold DoesPost
      rw [HE.out]
      exact ⟨rfl, (S7.sel [1]).tail⟩
    | false =>
      rw [hbd] at c25 HE
      go_wp2_with fail
      go_ret
      unfold DoesPost
      rw [HE.out]
      exact ⟨by simp, (S7.sel [1]).tail⟩

end Go.Proofs.YtjdeeloemhjbhaaGreat
end

section
namespace Go.Proofs.YtjdeeloemhjbhaaGreat
open Go.RowKit Go.Sep Go.Vm
set_option linter.unusedSimpArgs false
set_option linter.unusedVariables false

set_option maxRecDepth 100000 in
set_option maxHeartbeats 6400000 in
theorem does_op3 {W0 w : World} {L : List Asn} {p : Nat} {m : RM} (S : Sat W0 w (Rc p m :: L)) (hm : RM.Ok m) (hpc : 0 ≤ m.pc ∧ m.pc ≤ 300) {arg : Int} {n : Nat} (hmay : mayP 3 arg n = true) (hfew : ¬ m.st.length < takesP 3) :
    Calls Tryz.prog 71 #[.pointer (some ⟨p, 0, none⟩), .agg #[.int .i64 3, .int .i64 arg], .int .i64 n] w (DoesPost W0 L p (doesP 3 arg n m)) := by
  have S1 : Sat W0 (w.alloc (.cells #[.int .i64 3, .int .i64 arg] 95)) (Rc p m :: blk w.heap.size [.int .i64 3, .int .i64 arg] 95 :: L) := (S.alloc [.int .i64 3, .int .i64 arg] 95).sel [1]
  obtain ⟨ao, cap, S2⟩ := Rc_open.1 S1
  have h := hm.len
  have c22 := (rc_at h S2).st
  have hf : ¬ (m.st.length : Int) < (takesP 3 : Int) := by omega
  have HE := Lib.hid (doesP_act (n := n) (arg := arg) (m := m) hfew (by decide) (by decide))
  have hm1 : RM.Ok { m with pc := m.pc + 1 } := ⟨hm.len, hm.st, hm.i0, hm.i1, hm.seed, hm.frame, hm.stl⟩
  have HT : Hid (takesP 3 = takesP 3) := rfl
  generalize htk : takesP 3 = tk at hf hfew HT
  have htk' := Lib.hid htk
  clear hfew htk HT
  go_enter Tryz.func71, Tryz.ntmps71
  go_wp2_with fail
  go_quiet (first | (go_at_call 82; exact Calls.quiet_of_same ((takes_any _ 3 ⟨by decide, by decide⟩).mono fun _ _ ⟨a, b⟩ => ⟨a.trans (by rw [htk'.out]), b.symm⟩)))
  have S3 := S1.drewN nq
  generalize (w.alloc (.cells #[.int .i64 3, .int .i64 arg] 95)).drewN nq = w3 at S3 ⊢
  generalize w.heap.size = y at S3 ⊢
  obtain ⟨ao3, cap3, S4⟩ := Rc_open.1 S3
  have hA := rc_at h S4
  have xc := S3.cell 1 rfl 0
  have xa := S3.cell 1 rfl 1
  simp only [List.getElem?_cons_zero, List.getElem?_cons_succ] at xc xa
  have c23 := hA.pc
  have f23 := hA.free 23
  have S5 := Rc_open.2 ⟨ao3, cap3, rc_pc h S4 (m.pc + 1)⟩
  clear hA
  go_upto_block 0 with fail
  generalize w3.setCell ⟨p, 23, none⟩ (.int .i64 (m.pc + 1)) = w6 at S5 ⊢
  obtain ⟨m1, hm1e⟩ : ∃ m1 : RM, m1 = { m with pc := m.pc + 1 } := ⟨_, rfl⟩
  have S6 : Sat W0 w6 (Rc p m1 :: blk y [.int .i64 3, .int .i64 arg] 95 :: L) := by rw [hm1e]; exact S5
  rw [← hm1e] at hm1 HE
  clear S5 S4 S3 S2 S1 S c22 c23 f23 xc xa hf hpc h hm hm1e
  have xc := S6.cell 1 rfl 0
  have xa := S6.cell 1 rfl 1
  simp only [List.getElem?_cons_zero, List.getElem?_cons_succ] at xc xa
  have hl := hm1.len
  go_cut [] (fun wx => ∃ m2, m2 = actP 3 arg m1 ∧ Sat W0 wx (Rc p m2 :: blk y [.int .i64 3, .int .i64 arg] 95 :: L))
  case first =>
    clear HE
    have ha : 0 ≤ arg ∧ arg ≤ 15 := by rw [may3] at hmay; exact of_decide_eq_true hmay
    obtain ⟨k, rfl⟩ : ∃ k : Nat, arg = (k : Int) := ⟨arg.toNat, by omega⟩
    have k0 : (0 : Int) ≤ (k : Int) := Int.natCast_nonneg _
    have k1 : (k : Int) < 16 := by omega
    obtain ⟨v, m', hp⟩ : ∃ v m', m1.pop = (v, m') := ⟨_, _, rfl⟩
    have h1 := rpop_len hl hp
    have HV : Hid (actP 3 k m1 = { m' with s := { m'.s with cells := m'.s.cells.set k v } }) := by show _ = _; unfold actP; rw [if_neg (by decide), if_neg (by decide), if_pos rfl, hp]; rfl
    have HP := Lib.hid hp
    clear hp
    have kk : k < 16 := by omega
    go_wp2_with fail
    go_region_with (go_at_call 84; refine (rpop_any hl S6.drew HP.out).mono ?_; rintro e w' ⟨rfl, S8⟩; have x8 := S8.cell 1 rfl 1; simp only [List.getElem?_cons_zero, List.getElem?_cons_succ] at x8; obtain ⟨ao2, cap2, S9⟩ := Rc_open.1 S8; have c0 := (rc_at h1 S9).cells k kk; have f0 := (rc_at h1 S9).free (1 + k); have S10 := rc_set h1 S9 kk v)
    all_goals
      go_wp2_with fail
      go_meet
      exact ⟨_, rfl, by rw [HV.out]; exact Rc_open.2 ⟨ao2, cap2, S10⟩⟩
  case rest =>
    obtain ⟨m2, hm2, S7⟩ := hcut
    have h2 : m2.s.cells.length = 16 := by rw [hm2]; exact actP_len hl
    rw [← hm2] at HE
    obtain ⟨ao4, cap4, S8⟩ := Rc_open.1 S7
    have hB := rc_at h2 S8
    have c25 := hB.bad
    have c23 := hB.pc
    clear hB hm2
    cases hbd : m2.bad with
    | true =>
      rw [hbd] at c25 HE
      go_wp2_with fail
      go_ret
      unfold DoesPost
      rw [HE.out]
      exact ⟨rfl, (S7.sel [1]).tail⟩
    | false =>
      rw [hbd] at c25 HE
      go_wp2_with fail
      go_ret
      unfold DoesPost
      rw [HE.out]
      exact ⟨by simp, (S7.sel [1]).tail⟩

set_option maxRecDepth 100000 in
set_option maxHeartbeats 6400000 in
theorem does_op17 {W0 w : World} {L : List Asn} {p : Nat} {m : RM} (S : Sat W0 w (Rc p m :: L)) (hm : RM.Ok m) (hpc : 0 ≤ m.pc ∧ m.pc ≤ 300) {arg : Int} {n : Nat} (hmay : mayP 17 arg n = true) (hfew : ¬ m.st.length < takesP 17) :
    Calls Tryz.prog 71 #[.pointer (some ⟨p, 0, none⟩), .agg #[.int .i64 17, .int .i64 arg], .int .i64 n] w (DoesPost W0 L p (doesP 17 arg n m)) := by
  have S1 : Sat W0 (w.alloc (.cells #[.int .i64 17, .int .i64 arg] 95)) (Rc p m :: blk w.heap.size [.int .i64 17, .int .i64 arg] 95 :: L) := (S.alloc [.int .i64 17, .int .i64 arg] 95).sel [1]
  obtain ⟨ao, cap, S2⟩ := Rc_open.1 S1
  have h := hm.len
  have c22 := (rc_at h S2).st
  have hf : ¬ (m.st.length : Int) < (takesP 17 : Int) := by omega
  have HE := Lib.hid (doesP_act (n := n) (arg := arg) (m := m) hfew (by decide) (by decide))
  have hm1 : RM.Ok { m with pc := m.pc + 1 } := ⟨hm.len, hm.st, hm.i0, hm.i1, hm.seed, hm.frame, hm.stl⟩
  have HT : Hid (takesP 17 = takesP 17) := rfl
  generalize htk : takesP 17 = tk at hf hfew HT
  have htk' := Lib.hid htk
  clear hfew htk HT
  go_enter Tryz.func71, Tryz.ntmps71
  go_wp2_with fail
  go_quiet (first | (go_at_call 82; exact Calls.quiet_of_same ((takes_any _ 17 ⟨by decide, by decide⟩).mono fun _ _ ⟨a, b⟩ => ⟨a.trans (by rw [htk'.out]), b.symm⟩)))
  have S3 := S1.drewN nq
  generalize (w.alloc (.cells #[.int .i64 17, .int .i64 arg] 95)).drewN nq = w3 at S3 ⊢
  generalize w.heap.size = y at S3 ⊢
  obtain ⟨ao3, cap3, S4⟩ := Rc_open.1 S3
  have hA := rc_at h S4
  have xc := S3.cell 1 rfl 0
  have xa := S3.cell 1 rfl 1
  simp only [List.getElem?_cons_zero, List.getElem?_cons_succ] at xc xa
  have c23 := hA.pc
  have f23 := hA.free 23
  have S5 := Rc_open.2 ⟨ao3, cap3, rc_pc h S4 (m.pc + 1)⟩
  clear hA
  go_upto_block 0 with fail
  generalize w3.setCell ⟨p, 23, none⟩ (.int .i64 (m.pc + 1)) = w6 at S5 ⊢
  obtain ⟨m1, hm1e⟩ : ∃ m1 : RM, m1 = { m with pc := m.pc + 1 } := ⟨_, rfl⟩
  have S6 : Sat W0 w6 (Rc p m1 :: blk y [.int .i64 17, .int .i64 arg] 95 :: L) := by rw [hm1e]; exact S5
  rw [← hm1e] at hm1 HE
  clear S5 S4 S3 S2 S1 S c22 c23 f23 xc xa hf hpc h hm hm1e
  have xc := S6.cell 1 rfl 0
  have xa := S6.cell 1 rfl 1
  simp only [List.getElem?_cons_zero, List.getElem?_cons_succ] at xc xa
  have hl := hm1.len
  go_cut [] (fun wx => ∃ m2, m2 = actP 17 arg m1 ∧ Sat W0 wx (Rc p m2 :: blk y [.int .i64 17, .int .i64 arg] 95 :: L))
  case first =>
    clear HE
    obtain ⟨ao2, cap2, S7⟩ := Rc_open.1 S6
    have c1 := (rc_at hl S7).frame
    have hb := hm1.frame
    have HV : Hid (actP 17 arg m1 = m1.push m1.s.frame) := rfl
    generalize m1.s.frame = v at c1 HV hb
    go_wp2_with (go_at_call 83; refine (rpush_any hl S6 v).mono ?_; rintro e w' ⟨rfl, S8⟩)
    go_meet
    exact ⟨_, rfl, by rw [HV.out]; exact S8⟩
  case rest =>
    obtain ⟨m2, hm2, S7⟩ := hcut
    have h2 : m2.s.cells.length = 16 := by rw [hm2]; exact actP_len hl
    rw [← hm2] at HE
    obtain ⟨ao4, cap4, S8⟩ := Rc_open.1 S7
    have hB := rc_at h2 S8
    have c25 := hB.bad
    have c23 := hB.pc
    clear hB hm2
    cases hbd : m2.bad with
    | true =>
      rw [hbd] at c25 HE
      go_wp2_with fail
      go_ret
      unfold DoesPost
      rw [HE.out]
      exact ⟨rfl, (S7.sel [1]).tail⟩
    | false =>
      rw [hbd] at c25 HE
      go_wp2_with fail
      go_ret
      unfold DoesPost
      rw [HE.out]
      exact ⟨by simp, (S7.sel [1]).tail⟩

set_option maxRecDepth 100000 in
set_option maxHeartbeats 6400000 in
theorem does_op18 {W0 w : World} {L : List Asn} {p : Nat} {m : RM} (S : Sat W0 w (Rc p m :: L)) (hm : RM.Ok m) (hpc : 0 ≤ m.pc ∧ m.pc ≤ 300) {arg : Int} {n : Nat} (hmay : mayP 18 arg n = true) (hfew : ¬ m.st.length < takesP 18) :
    Calls Tryz.prog 71 #[.pointer (some ⟨p, 0, none⟩), .agg #[.int .i64 18, .int .i64 arg], .int .i64 n] w (DoesPost W0 L p (doesP 18 arg n m)) := by
  have S1 : Sat W0 (w.alloc (.cells #[.int .i64 18, .int .i64 arg] 95)) (Rc p m :: blk w.heap.size [.int .i64 18, .int .i64 arg] 95 :: L) := (S.alloc [.int .i64 18, .int .i64 arg] 95).sel [1]
  obtain ⟨ao, cap, S2⟩ := Rc_open.1 S1
  have h := hm.len
  have c22 := (rc_at h S2).st
  have hf : ¬ (m.st.length : Int) < (takesP 18 : Int) := by omega
  have HE := Lib.hid (doesP_act (n := n) (arg := arg) (m := m) hfew (by decide) (by decide))
  have hm1 : RM.Ok { m with pc := m.pc + 1 } := ⟨hm.len, hm.st, hm.i0, hm.i1, hm.seed, hm.frame, hm.stl⟩
  have HT : Hid (takesP 18 = takesP 18) := rfl
  generalize htk : takesP 18 = tk at hf hfew HT
  have htk' := Lib.hid htk
  clear hfew htk HT
  go_enter Tryz.func71, Tryz.ntmps71
  go_wp2_with fail
  go_quiet (first | (go_at_call 82; exact Calls.quiet_of_same ((takes_any _ 18 ⟨by decide, by decide⟩).mono fun _ _ ⟨a, b⟩ => ⟨a.trans (by rw [htk'.out]), b.symm⟩)))
  have S3 := S1.drewN nq
  generalize (w.alloc (.cells #[.int .i64 18, .int .i64 arg] 95)).drewN nq = w3 at S3 ⊢
  generalize w.heap.size = y at S3 ⊢
  obtain ⟨ao3, cap3, S4⟩ := Rc_open.1 S3
  have hA := rc_at h S4
  have xc := S3.cell 1 rfl 0
  have xa := S3.cell 1 rfl 1
  simp only [List.getElem?_cons_zero, List.getElem?_cons_succ] at xc xa
  have c23 := hA.pc
  have f23 := hA.free 23
  have S5 := Rc_open.2 ⟨ao3, cap3, rc_pc h S4 (m.pc + 1)⟩
  clear hA
  go_upto_block 0 with fail
  generalize w3.setCell ⟨p, 23, none⟩ (.int .i64 (m.pc + 1)) = w6 at S5 ⊢
  obtain ⟨m1, hm1e⟩ : ∃ m1 : RM, m1 = { m with pc := m.pc + 1 } := ⟨_, rfl⟩
  have S6 : Sat W0 w6 (Rc p m1 :: blk y [.int .i64 18, .int .i64 arg] 95 :: L) := by rw [hm1e]; exact S5
  rw [← hm1e] at hm1 HE
  clear S5 S4 S3 S2 S1 S c22 c23 f23 xc xa hf hpc h hm hm1e
  have xc := S6.cell 1 rfl 0
  have xa := S6.cell 1 rfl 1
  simp only [List.getElem?_cons_zero, List.getElem?_cons_succ] at xc xa
  have hl := hm1.len
  go_cut [] (fun wx => ∃ m2, m2 = actP 18 arg m1 ∧ Sat W0 wx (Rc p m2 :: blk y [.int .i64 18, .int .i64 arg] 95 :: L))
  case first =>
    clear HE
    obtain ⟨ao2, cap2, S7⟩ := Rc_open.1 S6
    have c1 := (rc_at hl S7).pc
    have f1 := (rc_at hl S7).free 23
    have S8 := rc_pc hl S7 arg
    go_wp2_with fail
    go_meet
    exact ⟨_, rfl, Rc_open.2 ⟨ao2, cap2, S8⟩⟩
  case rest =>
    obtain ⟨m2, hm2, S7⟩ := hcut
    have h2 : m2.s.cells.length = 16 := by rw [hm2]; exact actP_len hl
    rw [← hm2] at HE
    obtain ⟨ao4, cap4, S8⟩ := Rc_open.1 S7
    have hB := rc_at h2 S8
    have c25 := hB.bad
    have c23 := hB.pc
    clear hB hm2
    cases hbd : m2.bad with
    | true =>
      rw [hbd] at c25 HE
      go_wp2_with fail
      go_ret
      unfold DoesPost
      rw [HE.out]
      exact ⟨rfl, (S7.sel [1]).tail⟩
    | false =>
      rw [hbd] at c25 HE
      go_wp2_with fail
      go_ret
      unfold DoesPost
      rw [HE.out]
      exact ⟨by simp, (S7.sel [1]).tail⟩

end Go.Proofs.YtjdeeloemhjbhaaGreat
end

section
namespace Go.Proofs.YtjdeeloemhjbhaaGreat
open Go.RowKit Go.Sep Go.Vm
set_option linter.unusedSimpArgs false
set_option linter.unusedVariables false

set_option maxRecDepth 100000 in
set_option maxHeartbeats 6400000 in
theorem does_op12 {W0 w : World} {L : List Asn} {p : Nat} {m : RM} (S : Sat W0 w (Rc p m :: L)) (hm : RM.Ok m) (hpc : 0 ≤ m.pc ∧ m.pc ≤ 300) {arg : Int} {n : Nat} (hmay : mayP 12 arg n = true) (hfew : ¬ m.st.length < takesP 12) :
    Calls Tryz.prog 71 #[.pointer (some ⟨p, 0, none⟩), .agg #[.int .i64 12, .int .i64 arg], .int .i64 n] w (DoesPost W0 L p (doesP 12 arg n m)) := by
  have S1 : Sat W0 (w.alloc (.cells #[.int .i64 12, .int .i64 arg] 95)) (Rc p m :: blk w.heap.size [.int .i64 12, .int .i64 arg] 95 :: L) := (S.alloc [.int .i64 12, .int .i64 arg] 95).sel [1]
  obtain ⟨ao, cap, S2⟩ := Rc_open.1 S1
  have h := hm.len
  have c22 := (rc_at h S2).st
  have hf : ¬ (m.st.length : Int) < (takesP 12 : Int) := by omega
  have HE := Lib.hid (doesP_act (n := n) (arg := arg) (m := m) hfew (by decide) (by decide))
  have hm1 : RM.Ok { m with pc := m.pc + 1 } := ⟨hm.len, hm.st, hm.i0, hm.i1, hm.seed, hm.frame, hm.stl⟩
  have HT : Hid (takesP 12 = takesP 12) := rfl
  generalize htk : takesP 12 = tk at hf hfew HT
  have htk' := Lib.hid htk
  clear hfew htk HT
  go_enter Tryz.func71, Tryz.ntmps71
  go_wp2_with fail
  go_quiet (first | (go_at_call 82; exact Calls.quiet_of_same ((takes_any _ 12 ⟨by decide, by decide⟩).mono fun _ _ ⟨a, b⟩ => ⟨a.trans (by rw [htk'.out]), b.symm⟩)))
  have S3 := S1.drewN nq
  generalize (w.alloc (.cells #[.int .i64 12, .int .i64 arg] 95)).drewN nq = w3 at S3 ⊢
  generalize w.heap.size = y at S3 ⊢
  obtain ⟨ao3, cap3, S4⟩ := Rc_open.1 S3
  have hA := rc_at h S4
  have xc := S3.cell 1 rfl 0
  have xa := S3.cell 1 rfl 1
  simp only [List.getElem?_cons_zero, List.getElem?_cons_succ] at xc xa
  have c23 := hA.pc
  have f23 := hA.free 23
  have S5 := Rc_open.2 ⟨ao3, cap3, rc_pc h S4 (m.pc + 1)⟩
  clear hA
  go_upto_block 0 with fail
  generalize w3.setCell ⟨p, 23, none⟩ (.int .i64 (m.pc + 1)) = w6 at S5 ⊢
  obtain ⟨m1, hm1e⟩ : ∃ m1 : RM, m1 = { m with pc := m.pc + 1 } := ⟨_, rfl⟩
  have S6 : Sat W0 w6 (Rc p m1 :: blk y [.int .i64 12, .int .i64 arg] 95 :: L) := by rw [hm1e]; exact S5
  rw [← hm1e] at hm1 HE
  clear S5 S4 S3 S2 S1 S c22 c23 f23 xc xa hf hpc h hm hm1e
  have xc := S6.cell 1 rfl 0
  have xa := S6.cell 1 rfl 1
  simp only [List.getElem?_cons_zero, List.getElem?_cons_succ] at xc xa
  have hl := hm1.len
  go_cut [] (fun wx => ∃ m2, m2 = actP 12 arg m1 ∧ Sat W0 wx (Rc p m2 :: blk y [.int .i64 12, .int .i64 arg] 95 :: L))
  case first =>
    clear HE
    obtain ⟨v, m', hp⟩ : ∃ v m', m1.pop = (v, m') := ⟨_, _, rfl⟩
    have h1 := rpop_len hl hp
    have HV : Hid (actP 12 arg m1 = m'.push (truth (decide (v = 0)))) := by show _ = _; show m1.pop.2.push _ = _; rw [hp]
    have HP := Lib.hid hp
    clear hp
    by_cases hv : v = 0
    · subst hv
      rw [decide_eq_true rfl] at HV
      go_wp2_with (first
        | (go_at_call 84; refine (rpop_any hl S6 HP.out).mono ?_; rintro e w' ⟨rfl, S7⟩)
        | (go_at_call 85; refine (rtruth_any _ true).mono ?_; rintro e w' ⟨rfl, rfl⟩)
        | (go_at_call 83; refine (rpush_any h1 S7 (truth true)).mono ?_; rintro e w' ⟨rfl, S8⟩))
      go_meet
      exact ⟨_, rfl, by rw [HV.out]; exact S8⟩
    · have hz : (v == 0) = false := by simpa using hv
      rw [decide_eq_false hv] at HV
      go_wp2_with (first
        | (go_at_call 84; refine (rpop_any hl S6 HP.out).mono ?_; rintro e w' ⟨rfl, S7⟩)
        | (go_at_call 85; refine (rtruth_any _ false).mono ?_; rintro e w' ⟨rfl, rfl⟩)
        | (go_at_call 83; refine (rpush_any h1 S7 (truth false)).mono ?_; rintro e w' ⟨rfl, S8⟩))
      go_meet
      exact ⟨_, rfl, by rw [HV.out]; exact S8⟩
  case rest =>
    obtain ⟨m2, hm2, S7⟩ := hcut
    have h2 : m2.s.cells.length = 16 := by rw [hm2]; exact actP_len hl
    rw [← hm2] at HE
    obtain ⟨ao4, cap4, S8⟩ := Rc_open.1 S7
    have hB := rc_at h2 S8
    have c25 := hB.bad
    have c23 := hB.pc
    clear hB hm2
    cases hbd : m2.bad with
    | true =>
      rw [hbd] at c25 HE
      go_wp2_with fail
      go_ret
      unfold DoesPost
      rw [HE.out]
      exact ⟨rfl, (S7.sel [1]).tail⟩
    | false =>
      rw [hbd] at c25 HE
      go_wp2_with fail
      go_ret
      unfold DoesPost
      rw [HE.out]
      exact ⟨by simp, (S7.sel [1]).tail⟩

set_option maxRecDepth 100000 in
set_option maxHeartbeats 6400000 in
theorem does_op13 {W0 w : World} {L : List Asn} {p : Nat} {m : RM} (S : Sat W0 w (Rc p m :: L)) (hm : RM.Ok m) (hpc : 0 ≤ m.pc ∧ m.pc ≤ 300) {arg : Int} {n : Nat} (hmay : mayP 13 arg n = true) (hfew : ¬ m.st.length < takesP 13) :
    Calls Tryz.prog 71 #[.pointer (some ⟨p, 0, none⟩), .agg #[.int .i64 13, .int .i64 arg], .int .i64 n] w (DoesPost W0 L p (doesP 13 arg n m)) := by
  have S1 : Sat W0 (w.alloc (.cells #[.int .i64 13, .int .i64 arg] 95)) (Rc p m :: blk w.heap.size [.int .i64 13, .int .i64 arg] 95 :: L) := (S.alloc [.int .i64 13, .int .i64 arg] 95).sel [1]
  obtain ⟨ao, cap, S2⟩ := Rc_open.1 S1
  have h := hm.len
  have c22 := (rc_at h S2).st
  have hf : ¬ (m.st.length : Int) < (takesP 13 : Int) := by omega
  have HE := Lib.hid (doesP_act (n := n) (arg := arg) (m := m) hfew (by decide) (by decide))
  have hm1 : RM.Ok { m with pc := m.pc + 1 } := ⟨hm.len, hm.st, hm.i0, hm.i1, hm.seed, hm.frame, hm.stl⟩
  have HT : Hid (takesP 13 = takesP 13) := rfl
  generalize htk : takesP 13 = tk at hf hfew HT
  have htk' := Lib.hid htk
  clear hfew htk HT
  go_enter Tryz.func71, Tryz.ntmps71
  go_wp2_with fail
  go_quiet (first | (go_at_call 82; exact Calls.quiet_of_same ((takes_any _ 13 ⟨by decide, by decide⟩).mono fun _ _ ⟨a, b⟩ => ⟨a.trans (by rw [htk'.out]), b.symm⟩)))
  have S3 := S1.drewN nq
  generalize (w.alloc (.cells #[.int .i64 13, .int .i64 arg] 95)).drewN nq = w3 at S3 ⊢
  generalize w.heap.size = y at S3 ⊢
  obtain ⟨ao3, cap3, S4⟩ := Rc_open.1 S3
  have hA := rc_at h S4
  have xc := S3.cell 1 rfl 0
  have xa := S3.cell 1 rfl 1
  simp only [List.getElem?_cons_zero, List.getElem?_cons_succ] at xc xa
  have c23 := hA.pc
  have f23 := hA.free 23
  have S5 := Rc_open.2 ⟨ao3, cap3, rc_pc h S4 (m.pc + 1)⟩
  clear hA
  go_upto_block 0 with fail
  generalize w3.setCell ⟨p, 23, none⟩ (.int .i64 (m.pc + 1)) = w6 at S5 ⊢
  obtain ⟨m1, hm1e⟩ : ∃ m1 : RM, m1 = { m with pc := m.pc + 1 } := ⟨_, rfl⟩
  have S6 : Sat W0 w6 (Rc p m1 :: blk y [.int .i64 13, .int .i64 arg] 95 :: L) := by rw [hm1e]; exact S5
  rw [← hm1e] at hm1 HE
  clear S5 S4 S3 S2 S1 S c22 c23 f23 xc xa hf hpc h hm hm1e
  have xc := S6.cell 1 rfl 0
  have xa := S6.cell 1 rfl 1
  simp only [List.getElem?_cons_zero, List.getElem?_cons_succ] at xc xa
  have hl := hm1.len
  go_cut [] (fun wx => ∃ m2, m2 = actP 13 arg m1 ∧ Sat W0 wx (Rc p m2 :: blk y [.int .i64 13, .int .i64 arg] 95 :: L))
  case first =>
    clear HE
    obtain ⟨v, m', hp⟩ : ∃ v m', m1.pop = (v, m') := ⟨_, _, rfl⟩
    have h1 := rpop_len hl hp
    have h2 := rpush_len h1 v
    have HV : Hid (actP 13 arg m1 = (m'.push v).push v) := by show _ = _; show (m1.pop.2.push m1.pop.1).push m1.pop.1 = _; rw [hp]
    have HP := Lib.hid hp
    clear hp
    go_wp2_with (first
      | (go_at_call 83; refine (rpush_any h2 S8 v).mono ?_; rintro e w' ⟨rfl, S9⟩)
      | (go_at_call 83; refine (rpush_any h1 S7 v).mono ?_; rintro e w' ⟨rfl, S8⟩)
      | (go_at_call 84; refine (rpop_any hl S6 HP.out).mono ?_; rintro e w' ⟨rfl, S7⟩))
    go_meet
    exact ⟨_, rfl, by rw [HV.out]; exact S9⟩
  case rest =>
    obtain ⟨m2, hm2, S7⟩ := hcut
    have h2 : m2.s.cells.length = 16 := by rw [hm2]; exact actP_len hl
    rw [← hm2] at HE
    obtain ⟨ao4, cap4, S8⟩ := Rc_open.1 S7
    have hB := rc_at h2 S8
    have c25 := hB.bad
    have c23 := hB.pc
    clear hB hm2
    cases hbd : m2.bad with
    | true =>
      rw [hbd] at c25 HE
      go_wp2_with fail
      go_ret
      unfold DoesPost
      rw [HE.out]
      exact ⟨rfl, (S7.sel [1]).tail⟩
    | false =>
      rw [hbd] at c25 HE
      go_wp2_with fail
      go_ret
      unfold DoesPost
      rw [HE.out]
      exact ⟨by simp, (S7.sel [1]).tail⟩

set_option maxRecDepth 100000 in
set_option maxHeartbeats 6400000 in
theorem does_op19 {W0 w : World} {L : List Asn} {p : Nat} {m : RM} (S : Sat W0 w (Rc p m :: L)) (hm : RM.Ok m) (hpc : 0 ≤ m.pc ∧ m.pc ≤ 300) {arg : Int} {n : Nat} (hmay : mayP 19 arg n = true) (hfew : ¬ m.st.length < takesP 19) :
    Calls Tryz.prog 71 #[.pointer (some ⟨p, 0, none⟩), .agg #[.int .i64 19, .int .i64 arg], .int .i64 n] w (DoesPost W0 L p (doesP 19 arg n m)) := by
  have S1 : Sat W0 (w.alloc (.cells #[.int .i64 19, .int .i64 arg] 95)) (Rc p m :: blk w.heap.size [.int .i64 19, .int .i64 arg] 95 :: L) := (S.alloc [.int .i64 19, .int .i64 arg] 95).sel [1]
  obtain ⟨ao, cap, S2⟩ := Rc_open.1 S1
  have h := hm.len
  have c22 := (rc_at h S2).st
  have hf : ¬ (m.st.length : Int) < (takesP 19 : Int) := by omega
  have HE := Lib.hid (doesP_act (n := n) (arg := arg) (m := m) hfew (by decide) (by decide))
  have hm1 : RM.Ok { m with pc := m.pc + 1 } := ⟨hm.len, hm.st, hm.i0, hm.i1, hm.seed, hm.frame, hm.stl⟩
  have HT : Hid (takesP 19 = takesP 19) := rfl
  generalize htk : takesP 19 = tk at hf hfew HT
  have htk' := Lib.hid htk
  clear hfew htk HT
  go_enter Tryz.func71, Tryz.ntmps71
  go_wp2_with fail
  go_quiet (first | (go_at_call 82; exact Calls.quiet_of_same ((takes_any _ 19 ⟨by decide, by decide⟩).mono fun _ _ ⟨a, b⟩ => ⟨a.trans (by rw [htk'.out]), b.symm⟩)))
  have S3 := S1.drewN nq
  generalize (w.alloc (.cells #[.int .i64 19, .int .i64 arg] 95)).drewN nq = w3 at S3 ⊢
  generalize w.heap.size = y at S3 ⊢
  obtain ⟨ao3, cap3, S4⟩ := Rc_open.1 S3
  have hA := rc_at h S4
  have xc := S3.cell 1 rfl 0
  have xa := S3.cell 1 rfl 1
  simp only [List.getElem?_cons_zero, List.getElem?_cons_succ] at xc xa
  have c23 := hA.pc
  have f23 := hA.free 23
  have S5 := Rc_open.2 ⟨ao3, cap3, rc_pc h S4 (m.pc + 1)⟩
  clear hA
  go_upto_block 0 with fail
  generalize w3.setCell ⟨p, 23, none⟩ (.int .i64 (m.pc + 1)) = w6 at S5 ⊢
  obtain ⟨m1, hm1e⟩ : ∃ m1 : RM, m1 = { m with pc := m.pc + 1 } := ⟨_, rfl⟩
  have S6 : Sat W0 w6 (Rc p m1 :: blk y [.int .i64 19, .int .i64 arg] 95 :: L) := by rw [hm1e]; exact S5
  rw [← hm1e] at hm1 HE
  clear S5 S4 S3 S2 S1 S c22 c23 f23 xc xa hf hpc h hm hm1e
  have xc := S6.cell 1 rfl 0
  have xa := S6.cell 1 rfl 1
  simp only [List.getElem?_cons_zero, List.getElem?_cons_succ] at xc xa
  have hl := hm1.len
  go_cut [] (fun wx => ∃ m2, m2 = actP 19 arg m1 ∧ Sat W0 wx (Rc p m2 :: blk y [.int .i64 19, .int .i64 arg] 95 :: L))
  case first =>
    clear HE
    obtain ⟨v, m', hp⟩ : ∃ v m', m1.pop = (v, m') := ⟨_, _, rfl⟩
    have h1 := rpop_len hl hp
    have HV : Hid (actP 19 arg m1 = if v = 0 then { m' with pc := arg } else m') := by show _ = _; show (if m1.pop.1 = 0 then _ else _) = _; rw [hp]
    have HP := Lib.hid hp
    clear hp
    by_cases hv : v = 0
    · subst hv
      rw [if_pos rfl] at HV
      go_wp2_with (go_at_call 84; refine (rpop_any hl S6 HP.out).mono ?_; rintro e w' ⟨rfl, S7⟩; have x7 := S7.cell 1 rfl 1; simp only [List.getElem?_cons_zero, List.getElem?_cons_succ] at x7; obtain ⟨ao2, cap2, S8⟩ := Rc_open.1 S7; have c1 := (rc_at h1 S8).pc; have f1 := (rc_at h1 S8).free 23; have S9 := rc_pc h1 S8 arg)
      go_meet
      exact ⟨_, rfl, by rw [HV.out]; exact Rc_open.2 ⟨ao2, cap2, S9⟩⟩
    · have hz : (v == 0) = false := by simpa using hv
      rw [if_neg hv] at HV
      go_wp2_with (go_at_call 84; refine (rpop_any hl S6 HP.out).mono ?_; rintro e w' ⟨rfl, S7⟩)
      go_meet
      exact ⟨_, rfl, by rw [HV.out]; exact S7⟩
  case rest =>
    obtain ⟨m2, hm2, S7⟩ := hcut
    have h2 : m2.s.cells.length = 16 := by rw [hm2]; exact actP_len hl
    rw [← hm2] at HE
    obtain ⟨ao4, cap4, S8⟩ := Rc_open.1 S7
    have hB := rc_at h2 S8
    have c25 := hB.bad
    have c23 := hB.pc
    clear hB hm2
    cases hbd : m2.bad with
    | true =>
      rw [hbd] at c25 HE
      go_wp2_with fail
      go_ret
      unfold DoesPost
      rw [HE.out]
      exact ⟨rfl, (S7.sel [1]).tail⟩
    | false =>
      rw [hbd] at c25 HE
      go_wp2_with fail
      go_ret
      unfold DoesPost
      rw [HE.out]
      exact ⟨by simp, (S7.sel [1]).tail⟩

end Go.Proofs.YtjdeeloemhjbhaaGreat
end

section
namespace Go.Proofs.YtjdeeloemhjbhaaGreat
open Go.RowKit Go.Sep Go.Vm
set_option linter.unusedSimpArgs false
set_option linter.unusedVariables false

set_option maxRecDepth 100000 in
set_option maxHeartbeats 6400000 in
theorem does_op14 {W0 w : World} {L : List Asn} {p : Nat} {m : RM} (S : Sat W0 w (Rc p m :: L)) (hm : RM.Ok m) (hpc : 0 ≤ m.pc ∧ m.pc ≤ 300) {arg : Int} {n : Nat} (hmay : mayP 14 arg n = true) (hfew : ¬ m.st.length < takesP 14) :
    Calls Tryz.prog 71 #[.pointer (some ⟨p, 0, none⟩), .agg #[.int .i64 14, .int .i64 arg], .int .i64 n] w (DoesPost W0 L p (doesP 14 arg n m)) := by
  have S1 : Sat W0 (w.alloc (.cells #[.int .i64 14, .int .i64 arg] 95)) (Rc p m :: blk w.heap.size [.int .i64 14, .int .i64 arg] 95 :: L) := (S.alloc [.int .i64 14, .int .i64 arg] 95).sel [1]
  obtain ⟨ao, cap, S2⟩ := Rc_open.1 S1
  have h := hm.len
  have c22 := (rc_at h S2).st
  have hf : ¬ (m.st.length : Int) < (takesP 14 : Int) := by omega
  have HE := Lib.hid (doesP_act (n := n) (arg := arg) (m := m) hfew (by decide) (by decide))
  have hm1 : RM.Ok { m with pc := m.pc + 1 } := ⟨hm.len, hm.st, hm.i0, hm.i1, hm.seed, hm.frame, hm.stl⟩
  have HT : Hid (takesP 14 = takesP 14) := rfl
  generalize htk : takesP 14 = tk at hf hfew HT
  have htk' := Lib.hid htk
  clear hfew htk HT
  go_enter Tryz.func71, Tryz.ntmps71
  go_wp2_with fail
  go_quiet (first | (go_at_call 82; exact Calls.quiet_of_same ((takes_any _ 14 ⟨by decide, by decide⟩).mono fun _ _ ⟨a, b⟩ => ⟨a.trans (by rw [htk'.out]), b.symm⟩)))
  have S3 := S1.drewN nq
  generalize (w.alloc (.cells #[.int .i64 14, .int .i64 arg] 95)).drewN nq = w3 at S3 ⊢
  generalize w.heap.size = y at S3 ⊢
  obtain ⟨ao3, cap3, S4⟩ := Rc_open.1 S3
  have hA := rc_at h S4
  have xc := S3.cell 1 rfl 0
  have xa := S3.cell 1 rfl 1
  simp only [List.getElem?_cons_zero, List.getElem?_cons_succ] at xc xa
  have c23 := hA.pc
  have f23 := hA.free 23
  have S5 := Rc_open.2 ⟨ao3, cap3, rc_pc h S4 (m.pc + 1)⟩
  clear hA
  go_upto_block 0 with fail
  generalize w3.setCell ⟨p, 23, none⟩ (.int .i64 (m.pc + 1)) = w6 at S5 ⊢
  obtain ⟨m1, hm1e⟩ : ∃ m1 : RM, m1 = { m with pc := m.pc + 1 } := ⟨_, rfl⟩
  have S6 : Sat W0 w6 (Rc p m1 :: blk y [.int .i64 14, .int .i64 arg] 95 :: L) := by rw [hm1e]; exact S5
  rw [← hm1e] at hm1 HE
  clear S5 S4 S3 S2 S1 S c22 c23 f23 xc xa hf hpc h hm hm1e
  have xc := S6.cell 1 rfl 0
  have xa := S6.cell 1 rfl 1
  simp only [List.getElem?_cons_zero, List.getElem?_cons_succ] at xc xa
  have hl := hm1.len
  go_cut [] (fun wx => ∃ m2, m2 = actP 14 arg m1 ∧ Sat W0 wx (Rc p m2 :: blk y [.int .i64 14, .int .i64 arg] 95 :: L))
  case first =>
    clear HE
    obtain ⟨v, m', hp⟩ : ∃ v m', m1.pop = (v, m') := ⟨_, _, rfl⟩
    have h1 := rpop_len hl hp
    obtain ⟨u, m'', hq⟩ : ∃ u m'', m'.pop = (u, m'') := ⟨_, _, rfl⟩
    have h2 := rpop_len h1 hq
    have h3 := rpush_len h2 v
    have HV : Hid (actP 14 arg m1 = (m''.push v).push u) := by show _ = _; show (m1.pop.2.pop.2.push m1.pop.1).push m1.pop.2.pop.1 = _; rw [hp, hq]
    have HP := Lib.hid hp
    have HQ := Lib.hid hq
    clear hp hq
    go_wp2_with (first
      | (go_at_call 83; refine (rpush_any h3 S9 u).mono ?_; rintro e w' ⟨rfl, S10⟩)
      | (go_at_call 83; refine (rpush_any h2 S8 v).mono ?_; rintro e w' ⟨rfl, S9⟩)
      | (go_at_call 84; refine (rpop_any h1 S7 HQ.out).mono ?_; rintro e w' ⟨rfl, S8⟩)
      | (go_at_call 84; refine (rpop_any hl S6 HP.out).mono ?_; rintro e w' ⟨rfl, S7⟩))
    go_meet
    exact ⟨_, rfl, by rw [HV.out]; exact S10⟩
  case rest =>
    obtain ⟨m2, hm2, S7⟩ := hcut
    have h2 : m2.s.cells.length = 16 := by rw [hm2]; exact actP_len hl
    rw [← hm2] at HE
    obtain ⟨ao4, cap4, S8⟩ := Rc_open.1 S7
    have hB := rc_at h2 S8
    have c25 := hB.bad
    have c23 := hB.pc
    clear hB hm2
    cases hbd : m2.bad with
    | true =>
      rw [hbd] at c25 HE
      go_wp2_with fail
      go_ret
      unfold DoesPost
      rw [HE.out]
      exact ⟨rfl, (S7.sel [1]).tail⟩
    | false =>
      rw [hbd] at c25 HE
      go_wp2_with fail
      go_ret
      unfold DoesPost
      rw [HE.out]
      exact ⟨by simp, (S7.sel [1]).tail⟩

set_option maxRecDepth 100000 in
set_option maxHeartbeats 6400000 in
theorem does_op21 {W0 w : World} {L : List Asn} {p : Nat} {m : RM} (S : Sat W0 w (Rc p m :: L)) (hm : RM.Ok m) (hpc : 0 ≤ m.pc ∧ m.pc ≤ 300) {arg : Int} {n : Nat} (hmay : mayP 21 arg n = true) (hfew : ¬ m.st.length < takesP 21) :
    Calls Tryz.prog 71 #[.pointer (some ⟨p, 0, none⟩), .agg #[.int .i64 21, .int .i64 arg], .int .i64 n] w (DoesPost W0 L p (doesP 21 arg n m)) := by
  have S1 : Sat W0 (w.alloc (.cells #[.int .i64 21, .int .i64 arg] 95)) (Rc p m :: blk w.heap.size [.int .i64 21, .int .i64 arg] 95 :: L) := (S.alloc [.int .i64 21, .int .i64 arg] 95).sel [1]
  obtain ⟨ao, cap, S2⟩ := Rc_open.1 S1
  have h := hm.len
  have c22 := (rc_at h S2).st
  have hf : ¬ (m.st.length : Int) < (takesP 21 : Int) := by omega
  have HE := Lib.hid (doesP_act (n := n) (arg := arg) (m := m) hfew (by decide) (by decide))
  have hm1 : RM.Ok { m with pc := m.pc + 1 } := ⟨hm.len, hm.st, hm.i0, hm.i1, hm.seed, hm.frame, hm.stl⟩
  have HT : Hid (takesP 21 = takesP 21) := rfl
  generalize htk : takesP 21 = tk at hf hfew HT
  have htk' := Lib.hid htk
  clear hfew htk HT
  go_enter Tryz.func71, Tryz.ntmps71
  go_wp2_with fail
  go_quiet (first | (go_at_call 82; exact Calls.quiet_of_same ((takes_any _ 21 ⟨by decide, by decide⟩).mono fun _ _ ⟨a, b⟩ => ⟨a.trans (by rw [htk'.out]), b.symm⟩)))
  have S3 := S1.drewN nq
  generalize (w.alloc (.cells #[.int .i64 21, .int .i64 arg] 95)).drewN nq = w3 at S3 ⊢
  generalize w.heap.size = y at S3 ⊢
  obtain ⟨ao3, cap3, S4⟩ := Rc_open.1 S3
  have hA := rc_at h S4
  have xc := S3.cell 1 rfl 0
  have xa := S3.cell 1 rfl 1
  simp only [List.getElem?_cons_zero, List.getElem?_cons_succ] at xc xa
  have c23 := hA.pc
  have f23 := hA.free 23
  have S5 := Rc_open.2 ⟨ao3, cap3, rc_pc h S4 (m.pc + 1)⟩
  clear hA
  go_upto_block 0 with fail
  generalize w3.setCell ⟨p, 23, none⟩ (.int .i64 (m.pc + 1)) = w6 at S5 ⊢
  obtain ⟨m1, hm1e⟩ : ∃ m1 : RM, m1 = { m with pc := m.pc + 1 } := ⟨_, rfl⟩
  have S6 : Sat W0 w6 (Rc p m1 :: blk y [.int .i64 21, .int .i64 arg] 95 :: L) := by rw [hm1e]; exact S5
  rw [← hm1e] at hm1 HE
  clear S5 S4 S3 S2 S1 S c22 c23 f23 xc xa hf hpc h hm hm1e
  have xc := S6.cell 1 rfl 0
  have xa := S6.cell 1 rfl 1
  simp only [List.getElem?_cons_zero, List.getElem?_cons_succ] at xc xa
  have hl := hm1.len
  go_cut [] (fun wx => ∃ m2, m2 = actP 21 arg m1 ∧ Sat W0 wx (Rc p m2 :: blk y [.int .i64 21, .int .i64 arg] 95 :: L))
  case first =>
    clear HE
    obtain ⟨ao2, cap2, S7⟩ := Rc_open.1 S6
    have c1 := (rc_at hl S7).seed
    have f1 := (rc_at hl S7).free 17
    have hs := hm1.seed
    obtain ⟨x1, hx1⟩ : ∃ x1, bits .xor .u32 m1.s.seed (m1.s.seed * 8192 % 4294967296) = x1 := ⟨_, rfl⟩
    obtain ⟨x2, hx2⟩ : ∃ x2, bits .xor .u32 x1 (x1 / 131072) = x2 := ⟨_, rfl⟩
    obtain ⟨x3, hx3⟩ : ∃ x3, bits .xor .u32 x2 (x2 * 32 % 4294967296) = x3 := ⟨_, rfl⟩
    have b1 : 0 ≤ x1 ∧ x1 < 4294967296 := by rw [← hx1]; exact xor32_bd hs (by omega)
    have b2 : 0 ≤ x2 ∧ x2 < 4294967296 := by rw [← hx2]; exact xor32_bd b1 (by omega)
    have b3 : 0 ≤ x3 ∧ x3 < 4294967296 := by rw [← hx3]; exact xor32_bd b2 (by omega)
    have hn : nextSeed m1.s.seed = x3 := by unfold nextSeed xs13 xs17 xs5; rw [hx1, hx2, hx3]
    have hx4 := and_u32_low b3.1 b3.2
    have HV : Hid (actP 21 arg m1 = RM.push { m1 with s := { m1.s with seed := x3 } } (x3 % 65536)) := by show _ = _; rw [← hn]; rfl
    have S8 := Rc_open.2 ⟨ao2, cap2, rc_seed hl S7 x3⟩
    clear hn
    go_wp2_with (go_at_call 83; refine (rpush_any (m := { m1 with s := { m1.s with seed := x3 } }) hl S8 (x3 % 65536)).mono ?_; rintro e w' ⟨rfl, S9⟩)
    go_meet
    exact ⟨_, rfl, by rw [HV.out]; exact S9⟩
  case rest =>
    obtain ⟨m2, hm2, S7⟩ := hcut
    have h2 : m2.s.cells.length = 16 := by rw [hm2]; exact actP_len hl
    rw [← hm2] at HE
    obtain ⟨ao4, cap4, S8⟩ := Rc_open.1 S7
    have hB := rc_at h2 S8
    have c25 := hB.bad
    have c23 := hB.pc
    clear hB hm2
    cases hbd : m2.bad with
    | true =>
      rw [hbd] at c25 HE
      go_wp2_with fail
      go_ret
      unfold DoesPost
      rw [HE.out]
      exact ⟨rfl, (S7.sel [1]).tail⟩
    | false =>
      rw [hbd] at c25 HE
      go_wp2_with fail
      go_ret
      unfold DoesPost
      rw [HE.out]
      exact ⟨by simp, (S7.sel [1]).tail⟩

end Go.Proofs.YtjdeeloemhjbhaaGreat
end

section
namespace Go.Proofs.YtjdeeloemhjbhaaGreat
open Go.RowKit Go.Sep Go.Vm
set_option linter.unusedSimpArgs false
set_option linter.unusedVariables false

set_option maxRecDepth 100000 in
set_option maxHeartbeats 6400000 in
theorem does_two {W0 w : World} {L : List Asn} {p : Nat} {m : RM} (S : Sat W0 w (Rc p m :: L)) (hm : RM.Ok m) (hpc : 0 ≤ m.pc ∧ m.pc ≤ 300) {op arg : Int} (e : 4 ≤ op ∧ op ≤ 11) {n : Nat} (hmay : mayP op arg n = true) (hfew : ¬ m.st.length < takesP op) :
    Calls Tryz.prog 71 #[.pointer (some ⟨p, 0, none⟩), .agg #[.int .i64 op, .int .i64 arg], .int .i64 n] w (DoesPost W0 L p (doesP op arg n m)) := by
  have S1 : Sat W0 (w.alloc (.cells #[.int .i64 op, .int .i64 arg] 95)) (Rc p m :: blk w.heap.size [.int .i64 op, .int .i64 arg] 95 :: L) := (S.alloc [.int .i64 op, .int .i64 arg] 95).sel [1]
  obtain ⟨ao, cap, S2⟩ := Rc_open.1 S1
  have h := hm.len
  have c22 := (rc_at h S2).st
  have hf : ¬ (m.st.length : Int) < (takesP op : Int) := by omega
  have HE := Lib.hid (doesP_act (n := n) (arg := arg) (m := m) hfew (by omega) (by omega))
  have hm1 : RM.Ok { m with pc := m.pc + 1 } := ⟨hm.len, hm.st, hm.i0, hm.i1, hm.seed, hm.frame, hm.stl⟩
  have HT : Hid (takesP op = takesP op) := rfl
  generalize htk : takesP op = tk at hf hfew HT
  have htk' := Lib.hid htk
  clear hfew htk HT
  go_enter Tryz.func71, Tryz.ntmps71
  go_wp2_with fail
  go_quiet (first | (go_at_call 82; exact Calls.quiet_of_same ((takes_any _ op ⟨by omega, by omega⟩).mono fun _ _ ⟨a, b⟩ => ⟨a.trans (by rw [htk'.out]), b.symm⟩)))
  have S3 := S1.drewN nq
  generalize (w.alloc (.cells #[.int .i64 op, .int .i64 arg] 95)).drewN nq = w3 at S3 ⊢
  generalize w.heap.size = y at S3 ⊢
  obtain ⟨ao3, cap3, S4⟩ := Rc_open.1 S3
  have hA := rc_at h S4
  have xc := S3.cell 1 rfl 0
  have xa := S3.cell 1 rfl 1
  simp only [List.getElem?_cons_zero, List.getElem?_cons_succ] at xc xa
  have c23 := hA.pc
  have f23 := hA.free 23
  have S5 := Rc_open.2 ⟨ao3, cap3, rc_pc h S4 (m.pc + 1)⟩
  clear hA
  go_upto_block 0 with fail
  generalize w3.setCell ⟨p, 23, none⟩ (.int .i64 (m.pc + 1)) = w6 at S5 ⊢
  obtain ⟨m1, hm1e⟩ : ∃ m1 : RM, m1 = { m with pc := m.pc + 1 } := ⟨_, rfl⟩
  have S6 : Sat W0 w6 (Rc p m1 :: blk y [.int .i64 op, .int .i64 arg] 95 :: L) := by rw [hm1e]; exact S5
  rw [← hm1e] at hm1 HE
  clear S5 S4 S3 S2 S1 S c22 c23 f23 xc xa hf hpc h hm hm1e
  have xc := S6.cell 1 rfl 0
  have xa := S6.cell 1 rfl 1
  simp only [List.getElem?_cons_zero, List.getElem?_cons_succ] at xc xa
  have hl := hm1.len
  go_cut [] (fun wx => ∃ m2, m2 = actP op arg m1 ∧ Sat W0 wx (Rc p m2 :: blk y [.int .i64 op, .int .i64 arg] 95 :: L))
  case first =>
    clear HE
    have ha : ∀ m, actP op arg m = m.pop.2.pop.2.push (op2 op m.pop.2.pop.1 m.pop.1) := by
      intro m
      unfold actP
      rw [if_neg (by omega), if_neg (by omega), if_neg (by omega), if_pos (by omega)]
    obtain ⟨v, m', hp⟩ : ∃ v m', m1.pop = (v, m') := ⟨_, _, rfl⟩
    have h1 := rpop_len hl hp
    obtain ⟨u, m'', hq⟩ : ∃ u m'', m'.pop = (u, m'') := ⟨_, _, rfl⟩
    have h2 := rpop_len h1 hq
    have b1 := rpop_val hm1.st hp
    have b2 := rpop_val b1.2 hq
    have HV : Hid (actP op arg m1 = m''.push (op2 op u v)) := by show _ = _; rw [ha, hp, hq]
    have HP := Lib.hid hp
    have HQ := Lib.hid hq
    have bv := b1.1
    have bu := b2.1
    clear hp hq ha b1 b2
    have z1 : (op == 1) = false := by rw [beq_eq_false_iff_ne]; omega
    have z2 : (op == 2) = false := by rw [beq_eq_false_iff_ne]; omega
    have z3 : (op == 3) = false := by rw [beq_eq_false_iff_ne]; omega
    have z12 : (op == 12) = false := by rw [beq_eq_false_iff_ne]; omega
    have z13 : (op == 13) = false := by rw [beq_eq_false_iff_ne]; omega
    have z14 : (op == 14) = false := by rw [beq_eq_false_iff_ne]; omega
    have z15 : (op == 15) = false := by rw [beq_eq_false_iff_ne]; omega
    have z16 : (op == 16) = false := by rw [beq_eq_false_iff_ne]; omega
    have z17 : (op == 17) = false := by rw [beq_eq_false_iff_ne]; omega
    have z18 : (op == 18) = false := by rw [beq_eq_false_iff_ne]; omega
    have z19 : (op == 19) = false := by rw [beq_eq_false_iff_ne]; omega
    have z20 : (op == 20) = false := by rw [beq_eq_false_iff_ne]; omega
    have z21 : (op == 21) = false := by rw [beq_eq_false_iff_ne]; omega
    have z22 : (op == 22) = false := by rw [beq_eq_false_iff_ne]; omega
    go_wp2_with (first
      | (go_at_call 84; refine (rpop_any h1 S7 HQ.out).mono ?_; rintro e w' ⟨rfl, S8⟩; have x8 := S8.cell 1 rfl 0; simp only [List.getElem?_cons_zero, List.getElem?_cons_succ] at x8)
      | (go_at_call 84; refine (rpop_any hl S6 HP.out).mono ?_; rintro e w' ⟨rfl, S7⟩)
      | (go_at_call 86; refine (rtwo_any _ op u v e bu bv).mono ?_; rintro e' w' ⟨rfl, rfl⟩)
      | (go_at_call 83; refine (rpush_any h2 S8 (op2 op u v)).mono ?_; rintro e w' ⟨rfl, S9⟩))
    go_meet
    exact ⟨_, rfl, by rw [HV.out]; exact S9⟩
  case rest =>
    obtain ⟨m2, hm2, S7⟩ := hcut
    have h2 : m2.s.cells.length = 16 := by rw [hm2]; exact actP_len hl
    rw [← hm2] at HE
    obtain ⟨ao4, cap4, S8⟩ := Rc_open.1 S7
    have hB := rc_at h2 S8
    have c25 := hB.bad
    have c23 := hB.pc
    clear hB hm2
    cases hbd : m2.bad with
    | true =>
      rw [hbd] at c25 HE
      go_wp2_with fail
      go_ret
      unfold DoesPost
      rw [HE.out]
      exact ⟨rfl, (S7.sel [1]).tail⟩
    | false =>
      rw [hbd] at c25 HE
      go_wp2_with fail
      go_ret
      unfold DoesPost
      rw [HE.out]
      exact ⟨by simp, (S7.sel [1]).tail⟩

end Go.Proofs.YtjdeeloemhjbhaaGreat
end

section
namespace Go.Proofs.YtjdeeloemhjbhaaGreat
open Go.RowKit Go.Sep Go.Vm
set_option linter.unusedSimpArgs false
set_option linter.unusedVariables false

set_option maxRecDepth 100000 in
set_option maxHeartbeats 6400000 in
theorem does_op16 {W0 w : World} {L : List Asn} {p : Nat} {m : RM} (S : Sat W0 w (Rc p m :: L)) (hm : RM.Ok m) (hpc : 0 ≤ m.pc ∧ m.pc ≤ 300) {arg : Int} {n : Nat} (hmay : mayP 16 arg n = true) (hfew : ¬ m.st.length < takesP 16) :
    Calls Tryz.prog 71 #[.pointer (some ⟨p, 0, none⟩), .agg #[.int .i64 16, .int .i64 arg], .int .i64 n] w (DoesPost W0 L p (doesP 16 arg n m)) := by
  have S1 : Sat W0 (w.alloc (.cells #[.int .i64 16, .int .i64 arg] 95)) (Rc p m :: blk w.heap.size [.int .i64 16, .int .i64 arg] 95 :: L) := (S.alloc [.int .i64 16, .int .i64 arg] 95).sel [1]
  obtain ⟨ao, cap, S2⟩ := Rc_open.1 S1
  have h := hm.len
  have c22 := (rc_at h S2).st
  have hf : ¬ (m.st.length : Int) < (takesP 16 : Int) := by omega
  have HE := Lib.hid (doesP_act (n := n) (arg := arg) (m := m) hfew (by decide) (by decide))
  have hm1 : RM.Ok { m with pc := m.pc + 1 } := ⟨hm.len, hm.st, hm.i0, hm.i1, hm.seed, hm.frame, hm.stl⟩
  have HT : Hid (takesP 16 = takesP 16) := rfl
  generalize htk : takesP 16 = tk at hf hfew HT
  have htk' := Lib.hid htk
  clear hfew htk HT
  go_enter Tryz.func71, Tryz.ntmps71
  go_wp2_with fail
  go_quiet (first | (go_at_call 82; exact Calls.quiet_of_same ((takes_any _ 16 ⟨by decide, by decide⟩).mono fun _ _ ⟨a, b⟩ => ⟨a.trans (by rw [htk'.out]), b.symm⟩)))
  have S3 := S1.drewN nq
  generalize (w.alloc (.cells #[.int .i64 16, .int .i64 arg] 95)).drewN nq = w3 at S3 ⊢
  generalize w.heap.size = y at S3 ⊢
  obtain ⟨ao3, cap3, S4⟩ := Rc_open.1 S3
  have hA := rc_at h S4
  have xc := S3.cell 1 rfl 0
  have xa := S3.cell 1 rfl 1
  simp only [List.getElem?_cons_zero, List.getElem?_cons_succ] at xc xa
  have c23 := hA.pc
  have f23 := hA.free 23
  have S5 := Rc_open.2 ⟨ao3, cap3, rc_pc h S4 (m.pc + 1)⟩
  clear hA
  go_upto_block 0 with fail
  generalize w3.setCell ⟨p, 23, none⟩ (.int .i64 (m.pc + 1)) = w6 at S5 ⊢
  obtain ⟨m1, hm1e⟩ : ∃ m1 : RM, m1 = { m with pc := m.pc + 1 } := ⟨_, rfl⟩
  have S6 : Sat W0 w6 (Rc p m1 :: blk y [.int .i64 16, .int .i64 arg] 95 :: L) := by rw [hm1e]; exact S5
  rw [← hm1e] at hm1 HE
  clear S5 S4 S3 S2 S1 S c22 c23 f23 xc xa hf hpc h hm hm1e
  have xc := S6.cell 1 rfl 0
  have xa := S6.cell 1 rfl 1
  simp only [List.getElem?_cons_zero, List.getElem?_cons_succ] at xc xa
  have hl := hm1.len
  go_cut [] (fun wx => ∃ m2, m2 = actP 16 arg m1 ∧ Sat W0 wx (Rc p m2 :: blk y [.int .i64 16, .int .i64 arg] 95 :: L))
  case first =>
    clear HE
    have ha : 0 ≤ arg ∧ arg ≤ 1 := by rw [may16] at hmay; exact of_decide_eq_true hmay
    obtain ⟨k, rfl⟩ : ∃ k : Nat, arg = (k : Int) := ⟨arg.toNat, by omega⟩
    have k0 : (0 : Int) ≤ (k : Int) := Int.natCast_nonneg _
    have k1 : (k : Int) < 2 := by omega
    obtain ⟨v, hv⟩ : ∃ v : Int, v = if (k : Int) = 0 then m1.i0 else m1.i1 := ⟨_, rfl⟩
    have hb : 0 ≤ v ∧ v < 65536 := by
      have a := hm1.i0
      have b := hm1.i1
      rw [hv]
      split <;> assumption
    obtain ⟨ao2, cap2, S7⟩ := Rc_open.1 S6.drew
    have c1 : w6.drew.cell? ⟨p, 20 + k, none⟩ = some (.int .u16 v) := by
      rw [hv]
      rcases (show k = 0 ∨ k = 1 by omega) with rfl | rfl
      · exact (rc_at hl S7).i0
      · exact (rc_at hl S7).i1
    have HV : Hid (actP 16 k m1 = m1.push v) := by show _ = _; rw [hv]; rfl
    have hwr : IntKind.i32.wrap v = v := by unfold IntKind.wrap; simp [IntKind.signed, IntKind.bits]; omega
    have HV2 : Hid (actP 16 k m1 = m1.push (IntKind.i32.wrap v)) := by show _ = _; rw [hwr]; exact HV.out
    clear hv hwr HV
    go_wp2_with fail
    go_region_with (go_at_call 83; refine (rpush_any hl S6.drew (IntKind.i32.wrap v)).mono ?_; rintro e w' ⟨rfl, S8⟩)
    all_goals
      go_wp2_with fail
      go_meet
      exact ⟨_, rfl, by rw [HV2.out]; exact S8⟩
  case rest =>
    obtain ⟨m2, hm2, S7⟩ := hcut
    have h2 : m2.s.cells.length = 16 := by rw [hm2]; exact actP_len hl
    rw [← hm2] at HE
    obtain ⟨ao4, cap4, S8⟩ := Rc_open.1 S7
    have hB := rc_at h2 S8
    have c25 := hB.bad
    have c23 := hB.pc
    clear hB hm2
    cases hbd : m2.bad with
    | true =>
      rw [hbd] at c25 HE
      go_wp2_with fail
      go_ret
      unfold DoesPost
      rw [HE.out]
      exact ⟨rfl, (S7.sel [1]).tail⟩
    | false =>
      rw [hbd] at c25 HE
      go_wp2_with fail
      go_ret
      unfold DoesPost
      rw [HE.out]
      exact ⟨by simp, (S7.sel [1]).tail⟩

end Go.Proofs.YtjdeeloemhjbhaaGreat
end

section
namespace Go.Proofs.YtjdeeloemhjbhaaGreat
open Go.RowKit Go.Sep Go.Vm
set_option linter.unusedSimpArgs false

set_option maxRecDepth 100000 in
set_option maxHeartbeats 6400000 in
theorem does_any {W0 w : World} {L : List Asn} {p : Nat} {m : RM} (S : Sat W0 w (Rc p m :: L)) (hm : RM.Ok m) (hpc : 0 ≤ m.pc ∧ m.pc ≤ 300) {op arg : Int} {n : Nat} (hmay : mayP op arg n = true) (hop : 1 ≤ op ∧ op ≤ 22) :
    Calls Tryz.prog 71 #[.pointer (some ⟨p, 0, none⟩), .agg #[.int .i64 op, .int .i64 arg], .int .i64 n] w (DoesPost W0 L p (doesP op arg n m)) := by
  have S1 : Sat W0 (w.alloc (.cells #[.int .i64 op, .int .i64 arg] 95)) (Rc p m :: blk w.heap.size [.int .i64 op, .int .i64 arg] 95 :: L) := (S.alloc [.int .i64 op, .int .i64 arg] 95).sel [1]
  obtain ⟨ao, cap, S2⟩ := Rc_open.1 S1
  have h := hm.len
  have c22 := (rc_at h S2).st
  by_cases hfew : m.st.length < takesP op
  · have hf : (m.st.length : Int) < (takesP op : Int) := by omega
    have HE := Lib.hid (doesP_few (n := n) (arg := arg) hfew)
    clear hfew
    go_enter Tryz.func71, Tryz.ntmps71
    go_wp2_with fail
    go_quiet (first | (go_at_call 82; exact Calls.quiet_of_same ((takes_any _ op hop).mono fun _ _ ⟨a, b⟩ => ⟨a, b.symm⟩)))
    have S3 := S1.drewN nq
    generalize (w.alloc (.cells #[.int .i64 op, .int .i64 arg] 95)).drewN nq = w3 at S3 ⊢
    generalize w.heap.size = y at S3 ⊢
    obtain ⟨ao3, cap3, S4⟩ := Rc_open.1 S3
    have hA := rc_at h S4
    have xc := S3.cell 1 rfl 0
    have xa := S3.cell 1 rfl 1
    simp only [List.getElem?_cons_zero, List.getElem?_cons_succ] at xc xa
    have c25 := hA.bad
    have f25 := hA.free 25
    have S5 := rc_bad h S4 true
    clear hA
    go_wp2_with fail
    go_ret
    unfold DoesPost
    rw [HE.out]
    exact ⟨rfl, ((Rc_open.2 ⟨ao3, cap3, S5⟩).sel [1]).tail⟩
  have hf : ¬ (m.st.length : Int) < (takesP op : Int) := by omega
  by_cases h20 : op = 20
  · subst h20
    have HE := Lib.hid (doesP_win (n := n) (arg := arg) (m := m))
    clear hfew
    go_enter Tryz.func71, Tryz.ntmps71
    go_wp2_with fail
    go_quiet (first | (go_at_call 82; exact Calls.quiet_of_same ((takes_any _ 20 hop).mono fun _ _ ⟨a, b⟩ => ⟨a, b.symm⟩)))
    have S3 := S1.drewN nq
    generalize (w.alloc (.cells #[.int .i64 20, .int .i64 arg] 95)).drewN nq = w3 at S3 ⊢
    generalize w.heap.size = y at S3 ⊢
    obtain ⟨ao3, cap3, S4⟩ := Rc_open.1 S3
    have hA := rc_at h S4
    have xc := S3.cell 1 rfl 0
    have xa := S3.cell 1 rfl 1
    simp only [List.getElem?_cons_zero, List.getElem?_cons_succ] at xc xa
    have c23 := hA.pc
    have f23 := hA.free 23
    have c24 := hA.won
    have f24 := hA.free 24
    have S5 := rc_won (m := { m with pc := m.pc + 1 }) h (rc_pc h S4 (m.pc + 1)) arg
    clear hA
    go_wp2_with fail
    go_ret
    unfold DoesPost
    rw [HE.out]
    exact ⟨rfl, ((Rc_open.2 ⟨ao3, cap3, S5⟩).sel [1]).tail⟩
  by_cases h22 : op = 22
  · subst h22
    have HE := Lib.hid (doesP_halt (n := n) (arg := arg) (m := m))
    clear hfew
    go_enter Tryz.func71, Tryz.ntmps71
    go_wp2_with fail
    go_quiet (first | (go_at_call 82; exact Calls.quiet_of_same ((takes_any _ 22 hop).mono fun _ _ ⟨a, b⟩ => ⟨a, b.symm⟩)))
    have S3 := S1.drewN nq
    generalize (w.alloc (.cells #[.int .i64 22, .int .i64 arg] 95)).drewN nq = w3 at S3 ⊢
    generalize w.heap.size = y at S3 ⊢
    obtain ⟨ao3, cap3, S4⟩ := Rc_open.1 S3
    have hA := rc_at h S4
    have xc := S3.cell 1 rfl 0
    have xa := S3.cell 1 rfl 1
    simp only [List.getElem?_cons_zero, List.getElem?_cons_succ] at xc xa
    have c23 := hA.pc
    have f23 := hA.free 23
    have S5 := rc_pc h S4 (m.pc + 1)
    clear hA
    go_wp2_with fail
    go_ret
    unfold DoesPost
    rw [HE.out]
    exact ⟨rfl, ((Rc_open.2 ⟨ao3, cap3, S5⟩).sel [1]).tail⟩
  have hc : op = 1 ∨ op = 2 ∨ op = 3 ∨ (4 ≤ op ∧ op ≤ 11) ∨ op = 12 ∨ op = 13 ∨ op = 14 ∨ op = 15 ∨ op = 16 ∨ op = 17 ∨ op = 18 ∨ op = 19 ∨ op = 21 := by omega
  clear S1 S2 c22 hf
  rcases hc with rfl | rfl | rfl | e | rfl | rfl | rfl | rfl | rfl | rfl | rfl | rfl | rfl
  · exact does_op1 S hm hpc hmay hfew
  · exact does_op2 S hm hpc hmay hfew
  · exact does_op3 S hm hpc hmay hfew
  · exact does_two S hm hpc e hmay hfew
  · exact does_op12 S hm hpc hmay hfew
  · exact does_op13 S hm hpc hmay hfew
  · exact does_op14 S hm hpc hmay hfew
  · exact does_op15 S hm hpc hmay hfew
  · exact does_op16 S hm hpc hmay hfew
  · exact does_op17 S hm hpc hmay hfew
  · exact does_op18 S hm hpc hmay hfew
  · exact does_op19 S hm hpc hmay hfew
  · exact does_op21 S hm hpc hmay hfew
end Go.Proofs.YtjdeeloemhjbhaaGreat
end
