/-
  Chapter 10's document: the machine in memory; pop, push, what an op takes, what is made of two numbers.
-/
import Derived.Test.YtpcffejanlokiaaVmW0
import Derived.Test.YtpcffejanlokiaaVmR8
namespace Go.Proofs.Ytpcffejanlokiaa
open Go.RowKit Go.Sep Go.Vm

def Rc (p : Nat) (m : RM) : Asn := exA fun (r : Option Addr × Nat) => star (blk p (rvals m r.1 r.2) 65) (slc 21 1 r.1 m.st.length r.2 (iv m.st.reverse))
theorem Rc_open {W0 w : World} {L : List Asn} {p : Nat} {m : RM} : Sat W0 w (Rc p m :: L) ↔ ∃ ao cap, Sat W0 w (blk p (rvals m ao cap) 65 :: slc 21 1 ao m.st.length cap (iv m.st.reverse) :: L) := by
  unfold Rc
  constructor
  · intro h
    obtain ⟨⟨ao, cap⟩, h⟩ := Sat.ex.1 h
    exact ⟨ao, cap, Sat.star.1 h⟩
  · rintro ⟨ao, cap, h⟩
    exact Sat.ex.2 ⟨(ao, cap), Sat.star.2 h⟩


/-- the machine's cells, as the walk wants them -/
structure RcAt (w : World) (p : Nat) (m : RM) (ao : Option Addr) (cap : Nat) : Prop where
  frame : w.cell? ⟨p, 0, none⟩ = some (.int .i64 m.s.frame)
  seed : w.cell? ⟨p, 17, none⟩ = some (.int .u32 m.s.seed)
  over : w.cell? ⟨p, 18, none⟩ = some (.bool m.s.over)
  winner : w.cell? ⟨p, 19, none⟩ = some (.int .i64 m.s.winner)
  i0 : w.cell? ⟨p, 20, none⟩ = some (.int .u16 m.i0)
  i1 : w.cell? ⟨p, 21, none⟩ = some (.int .u16 m.i1)
  st : w.cell? ⟨p, 22, none⟩ = some (.slice ao m.st.length cap)
  pc : w.cell? ⟨p, 23, none⟩ = some (.int .i64 m.pc)
  won : w.cell? ⟨p, 24, none⟩ = some (.int .i64 m.won)
  bad : w.cell? ⟨p, 25, none⟩ = some (.bool m.bad)
  cells : ∀ k, k < 16 → w.cell? ⟨p, 1 + k, none⟩ = some (.int .i32 (m.s.cells[k]?.getD 0))
  free : ∀ k, w.frozen? ⟨p, k, none⟩ = false
theorem rc_at {W0 w : World} {L : List Asn} {p : Nat} {m : RM} {ao : Option Addr} {cap : Nat} (h : m.s.cells.length = 16) (S : Sat W0 w (blk p (rvals m ao cap) 65 :: L)) : RcAt w p m ao cap :=
  ⟨S.cell 0 rfl 0, (S.cell 0 rfl 17).trans (rvals_tail h 0), (S.cell 0 rfl 18).trans (rvals_tail h 1), (S.cell 0 rfl 19).trans (rvals_tail h 2), (S.cell 0 rfl 20).trans (rvals_tail h 3), (S.cell 0 rfl 21).trans (rvals_tail h 4),
   (S.cell 0 rfl 22).trans (rvals_tail h 5), (S.cell 0 rfl 23).trans (rvals_tail h 6), (S.cell 0 rfl 24).trans (rvals_tail h 7), (S.cell 0 rfl 25).trans (rvals_tail h 8), fun k hk => (S.cell 0 rfl (1 + k)).trans (rvals_cell h hk), fun k => S.frozen 0 rfl k⟩

theorem rc_seed {W0 w : World} {L : List Asn} {p : Nat} {m : RM} {ao : Option Addr} {cap : Nat} (h : m.s.cells.length = 16) (S : Sat W0 w (blk p (rvals m ao cap) 65 :: L)) (v : Int) : Sat W0 (w.setCell ⟨p, 17, none⟩ (.int .u32 v)) (blk p (rvals { m with s := { m.s with seed := v } } ao cap) 65 :: L) := by
  rw [← rvals_seed h]; exact S.setCell 0 rfl
theorem rc_over {W0 w : World} {L : List Asn} {p : Nat} {m : RM} {ao : Option Addr} {cap : Nat} (h : m.s.cells.length = 16) (S : Sat W0 w (blk p (rvals m ao cap) 65 :: L)) (v : Bool) : Sat W0 (w.setCell ⟨p, 18, none⟩ (.bool v)) (blk p (rvals { m with s := { m.s with over := v } } ao cap) 65 :: L) := by
  rw [← rvals_over h]; exact S.setCell 0 rfl
theorem rc_winner {W0 w : World} {L : List Asn} {p : Nat} {m : RM} {ao : Option Addr} {cap : Nat} (h : m.s.cells.length = 16) (S : Sat W0 w (blk p (rvals m ao cap) 65 :: L)) (v : Int) : Sat W0 (w.setCell ⟨p, 19, none⟩ (.int .i64 v)) (blk p (rvals { m with s := { m.s with winner := v } } ao cap) 65 :: L) := by
  rw [← rvals_winner h]; exact S.setCell 0 rfl
theorem rc_st {W0 w : World} {L : List Asn} {p : Nat} {m : RM} {ao : Option Addr} {cap : Nat} (h : m.s.cells.length = 16) (S : Sat W0 w (blk p (rvals m ao cap) 65 :: L)) (st : List Int) (ao' : Option Addr) (cap' : Nat) : Sat W0 (w.setCell ⟨p, 22, none⟩ (.slice ao' st.length cap')) (blk p (rvals { m with st := st } ao' cap') 65 :: L) := by
  rw [← rvals_st h]; exact S.setCell 0 rfl
theorem rc_pc {W0 w : World} {L : List Asn} {p : Nat} {m : RM} {ao : Option Addr} {cap : Nat} (h : m.s.cells.length = 16) (S : Sat W0 w (blk p (rvals m ao cap) 65 :: L)) (v : Int) : Sat W0 (w.setCell ⟨p, 23, none⟩ (.int .i64 v)) (blk p (rvals { m with pc := v } ao cap) 65 :: L) := by
  rw [← rvals_pc h]; exact S.setCell 0 rfl
theorem rc_won {W0 w : World} {L : List Asn} {p : Nat} {m : RM} {ao : Option Addr} {cap : Nat} (h : m.s.cells.length = 16) (S : Sat W0 w (blk p (rvals m ao cap) 65 :: L)) (v : Int) : Sat W0 (w.setCell ⟨p, 24, none⟩ (.int .i64 v)) (blk p (rvals { m with won := v } ao cap) 65 :: L) := by
  rw [← rvals_won h]; exact S.setCell 0 rfl
theorem rc_bad {W0 w : World} {L : List Asn} {p : Nat} {m : RM} {ao : Option Addr} {cap : Nat} (h : m.s.cells.length = 16) (S : Sat W0 w (blk p (rvals m ao cap) 65 :: L)) (v : Bool) : Sat W0 (w.setCell ⟨p, 25, none⟩ (.bool v)) (blk p (rvals { m with bad := v } ao cap) 65 :: L) := by
  rw [← rvals_bad h]; exact S.setCell 0 rfl
theorem rc_set {W0 w : World} {L : List Asn} {p : Nat} {m : RM} {ao : Option Addr} {cap : Nat} (h : m.s.cells.length = 16) (S : Sat W0 w (blk p (rvals m ao cap) 65 :: L)) {k : Nat} (hk : k < 16) (v : Int) : Sat W0 (w.setCell ⟨p, 1 + k, none⟩ (.int .i32 v)) (blk p (rvals { m with s := { m.s with cells := m.s.cells.set k v } } ao cap) 65 :: L) := by
  rw [← rvals_set h hk]; exact S.setCell 0 rfl

theorem rc_frame {W0 w : World} {L : List Asn} {p : Nat} {m : RM} {ao : Option Addr} {cap : Nat} (S : Sat W0 w (blk p (rvals m ao cap) 65 :: L)) (v : Int) : Sat W0 (w.setCell ⟨p, 0, none⟩ (.int .i64 v)) (blk p (rvals { m with s := { m.s with frame := v } } ao cap) 65 :: L) := by
  rw [← rvals_frame]; exact S.setCell 0 rfl

set_option maxRecDepth 100000 in
theorem rpop_nil {W0 w : World} {L : List Asn} {p : Nat} {m : RM} (h : m.s.cells.length = 16) (S : Sat W0 w (Rc p m :: L)) (h0 : m.st = []) :
    Calls Try.prog 35 #[.pointer (some ⟨p, 0, none⟩)] w fun e w' => e = .returned (.int .i32 0) ∧ Sat W0 w' (Rc p { m with bad := true } :: L) := by
  obtain ⟨ao, cap, S'⟩ := Rc_open.1 S
  have hM := rc_at h S'
  have c1 := hM.st
  have f25 := hM.free 25
  have c25 := hM.bad
  rw [h0] at c1
  have S2 := rc_bad h S' true
  clear hM
  go_enter Try.func35, Try.ntmps35
  go_wp2_with fail
  go_ret
  exact ⟨rfl, Rc_open.2 ⟨ao, cap, S2⟩⟩

set_option maxRecDepth 100000 in
theorem rpop_cons {W0 w : World} {L : List Asn} {p : Nat} {m : RM} (h : m.s.cells.length = 16) (S : Sat W0 w (Rc p m :: L)) {v : Int} {r : List Int} (h0 : m.st = v :: r) :
    Calls Try.prog 35 #[.pointer (some ⟨p, 0, none⟩)] w fun e w' => e = .returned (.int .i32 v) ∧ Sat W0 w' (Rc p { m with st := r } :: L) := by
  obtain ⟨ao, cap, S'⟩ := Rc_open.1 S
  have hM := rc_at h S'
  have c22 := hM.st
  have f22 := hM.free 22
  have hlen := (S'.sel [1]).own_len
  have hcap := hlen.2.1
  have hmx := hlen.2.2.1
  unfold maxLen at hmx
  rw [h0, List.length_cons] at hcap
  rw [h0, List.length_cons] at c22
  have S1 := S'.sel [1]
  rw [h0, List.reverse_cons, iv_append, List.length_cons] at S1
  cases ao with
  | none => have := (Sat.own_none.1 S1).1; omega
  | some ad =>
    obtain ⟨b, off, rfl⟩ := S1.own_addr
    obtain ⟨cv, _⟩ := S1.own_cell (i := r.length) (u := .int .i32 v) (by rw [List.getElem?_append_right (by rw [iv_length]; simp), iv_length]; simp [iv])
    have S2 := (S1.own_shrink (by rw [iv_length]; simp)).sel [1]
    have S3 := rc_st h S2 r (some ⟨b, off, none⟩) cap
    have hz : (((r.length + 1 : Nat) : Int) == 0) = false := by rw [beq_eq_false_iff_ne]; omega
    clear hM hlen S' S1 S2
    go_enter Try.func35, Try.ntmps35
    go_wp2_with fail
    go_ret
    exact ⟨rfl, Rc_open.2 ⟨_, cap, S3⟩⟩

theorem rpop_any {W0 w : World} {L : List Asn} {p : Nat} {m : RM} (h : m.s.cells.length = 16) (S : Sat W0 w (Rc p m :: L)) {v : Int} {m' : RM} (hp : m.pop = (v, m')) :
    Calls Try.prog 35 #[.pointer (some ⟨p, 0, none⟩)] w fun e w' => e = .returned (.int .i32 v) ∧ Sat W0 w' (Rc p m' :: L) := by
  obtain ⟨s, i0, i1, st, pc, wn, bd⟩ := m
  cases st with
  | nil => cases hp; exact rpop_nil h S rfl
  | cons x r => cases hp; exact rpop_cons h S rfl


theorem rpop_len {m : RM} (h : m.s.cells.length = 16) {v : Int} {m' : RM} (hp : m.pop = (v, m')) : m'.s.cells.length = 16 := by
  unfold RM.pop at hp
  split at hp <;> (cases hp; exact h)
theorem rpop_val {m : RM} (hs : ∀ c ∈ m.st, -2147483648 ≤ c ∧ c ≤ 2147483647) {v : Int} {m' : RM} (hp : m.pop = (v, m')) : (-2147483648 ≤ v ∧ v ≤ 2147483647) ∧ ∀ c ∈ m'.st, -2147483648 ≤ c ∧ c ≤ 2147483647 := by
  unfold RM.pop at hp
  split at hp
  · rename_i h0
    cases hp
    exact ⟨by omega, by simp [h0]⟩
  · rename_i x r h0
    cases hp
    rw [h0] at hs
    exact ⟨hs _ (by simp), fun c hc => hs c (by simp [hc])⟩
theorem rpush_len {m : RM} (h : m.s.cells.length = 16) (v : Int) : (m.push v).s.cells.length = 16 := by
  unfold RM.push
  split <;> exact h

set_option maxRecDepth 100000 in
theorem rpush_any {W0 w : World} {L : List Asn} {p : Nat} {m : RM} (h : m.s.cells.length = 16) (S : Sat W0 w (Rc p m :: L)) (v : Int) :
    Calls Try.prog 34 #[.pointer (some ⟨p, 0, none⟩), .int .i32 v] w fun e w' => e = .returned (.tuple #[]) ∧ Sat W0 w' (Rc p (m.push v) :: L) := by
  obtain ⟨ao, cap, S'⟩ := Rc_open.1 S
  have hM := rc_at h S'
  have c22 := hM.st
  have hl0 : (0 : Int) ≤ (m.st.length : Int) := Int.natCast_nonneg _
  by_cases hbig : 32 ≤ m.st.length
  · have e5 : m.push v = { m with bad := true } := by unfold RM.push; rw [if_pos hbig]
    have c25 := hM.bad
    have f25 := hM.free 25
    have S2 := rc_bad h S' true
    have E5 := Lib.hid e5
    clear e5 hM
    go_enter Try.func34, Try.ntmps34
    go_wp2_with fail
    refine bodyPost_ret (results_none rfl _ _ _) rfl ?_
    exact ⟨rfl, by rw [E5.out]; exact Rc_open.2 ⟨ao, cap, S2⟩⟩
  · have e5 : m.push v = { m with st := v :: m.st } := by unfold RM.push; rw [if_neg hbig]
    have E5 := Lib.hid e5
    obtain ⟨i0, hi, hz0, hz1, hz2⟩ := info_parts Try.infoI32
    have e2 : iv m.st.reverse ++ [Value.int .i32 v] = iv (v :: m.st).reverse := by rw [List.reverse_cons, iv_append]; rfl
    have E2 := Lib.hid e2
    have hmx : m.st.length ≤ 31 := by omega
    clear e5 hM e2
    have S1 := S'.alloc [.int .i32 v] 21
    go_enter Try.func34, Try.ntmps34
    go_wp2_with (at_builtin; refine wpList_append_sat rfl (.tmp 17) (.tmp 19) _ rfl 21 i0 (.int .i32 0) 1 4 Try.underlying63 hi hz0 hz1 hz2 rfl (by decide) (S1.sel [2]) rfl rfl (Rd.lit (S1.block 0 rfl).1) rfl (iv_one [v]) (by unfold maxLen; omega) (by omega) ?_; intro ao2 cap2 w2 S2; rw [E2.out] at S2; have hM2 := rc_at h ((S2.sel [1]).tail.sel [1]); have c22' := hM2.st; have f22 := hM2.free 22; clear hM2)
    go_end0
    refine ⟨rfl, ?_⟩
    rw [E5.out]
    refine Rc_open.2 ⟨ao2, cap2, ?_⟩
    exact rc_st h ((S2.sel [1]).tail.sel [1]) (v :: m.st) ao2 cap2

theorem rtruth_any (w : World) (b : Bool) : Calls Try.prog 36 #[.bool b] w fun e w' => e = .returned (.int .i32 (truth b)) ∧ w = w' := by
  cases b
  all_goals
    go_enter Try.func36, Try.ntmps36
    go_wp2_with fail
    go_ret
    exact ⟨rfl, rfl⟩
set_option maxRecDepth 100000 in
theorem takes_any (w : World) (op : Int) (hop : 1 ≤ op ∧ op ≤ 22) : Calls Try.prog 33 #[.int .i64 op] w fun e w' => e = .returned (.int .i64 (takesP op)) ∧ w = w' := by
  have hc : op = 1 ∨ op = 2 ∨ op = 3 ∨ op = 4 ∨ op = 5 ∨ op = 6 ∨ op = 7 ∨ op = 8 ∨ op = 9 ∨ op = 10 ∨ op = 11 ∨ op = 12 ∨ op = 13 ∨ op = 14 ∨ op = 15 ∨ op = 16 ∨ op = 17 ∨ op = 18 ∨ op = 19 ∨ op = 20 ∨ op = 21 ∨ op = 22 := by omega
  rcases hc with rfl | rfl | rfl | rfl | rfl | rfl | rfl | rfl | rfl | rfl | rfl | rfl | rfl | rfl | rfl | rfl | rfl | rfl | rfl | rfl | rfl | rfl
  all_goals
    go_enter Try.func33, Try.ntmps33
    go_wp2_with fail
    go_ret
    exact ⟨rfl, rfl⟩
set_option maxRecDepth 100000 in
theorem rtwo_any (w : World) (op b a : Int) (hop : 4 ≤ op ∧ op ≤ 11) (hb : -2147483648 ≤ b ∧ b ≤ 2147483647) (ha : -2147483648 ≤ a ∧ a ≤ 2147483647) :
    Calls Try.prog 37 #[.int .i64 op, .int .i32 b, .int .i32 a] w fun e w' => e = .returned (.int .i32 (op2 op b a)) ∧ w = w' := by
  have hc : op = 4 ∨ op = 5 ∨ op = 6 ∨ op = 7 ∨ op = 8 ∨ op = 9 ∨ op = 10 ∨ op = 11 := by omega
  rcases hc with rfl | rfl | rfl | rfl | rfl | rfl | rfl | rfl
  · go_enter Try.func37, Try.ntmps37
    go_wp2_with (go_at_call 40; refine (r8add_any _ b a hb ha).mono ?_; rintro e w1 ⟨rfl, rfl⟩)
    go_ret
    exact ⟨rfl, rfl⟩
  · go_enter Try.func37, Try.ntmps37
    go_wp2_with (go_at_call 41; refine (r8sub_any _ b a hb ha).mono ?_; rintro e w1 ⟨rfl, rfl⟩)
    go_ret
    exact ⟨rfl, rfl⟩
  · go_enter Try.func37, Try.ntmps37
    go_wp2_with (go_at_call 42; refine (r8mul_any _ b a hb ha).mono ?_; rintro e w1 ⟨rfl, rfl⟩)
    go_ret
    exact ⟨rfl, rfl⟩
  · go_enter Try.func37, Try.ntmps37
    go_wp2_with (go_at_call 43; refine (r8div_any _ b a hb ha).mono ?_; rintro e w1 ⟨rfl, rfl⟩)
    go_ret
    exact ⟨rfl, rfl⟩
  · go_enter Try.func37, Try.ntmps37
    go_wp2_with fail
    all_goals
      go_ret
      exact ⟨ret_int (by show _ = min b a; omega), rfl⟩
  · go_enter Try.func37, Try.ntmps37
    go_wp2_with fail
    all_goals
      go_ret
      exact ⟨ret_int (by show _ = max b a; omega), rfl⟩
  · go_enter Try.func37, Try.ntmps37
    go_wp2_with (go_at_call 36; refine (rtruth_any _ (decide (b < a))).mono ?_; rintro e w1 ⟨rfl, rfl⟩)
    go_ret
    exact ⟨rfl, rfl⟩
  · go_enter Try.func37, Try.ntmps37
    go_wp2_with (go_at_call 36; refine (rtruth_any _ (b == a)).mono ?_; rintro e w1 ⟨rfl, rfl⟩)
    go_ret
    exact ⟨rfl, rfl⟩
end Go.Proofs.Ytpcffejanlokiaa
