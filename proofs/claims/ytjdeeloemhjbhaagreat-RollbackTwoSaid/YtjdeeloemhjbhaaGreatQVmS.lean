/-
  vm: whether a game is one, a state; the beginning.
-/
import Derived.Test.YtjdeeloemhjbhaaGreatQVmC

namespace Go.Proofs.YtjdeeloemhjbhaaGreat
open Go.RowKit Go.Sep Go.Vm

theorem codeP_bd (code : List (Int × Int)) : codeP code = 0 ∨ codeP code = 3 ∨ codeP code = 5 := by
  unfold codeP
  split
  · exact .inr (.inr rfl)
  · split
    · exact .inr (.inl rfl)
    · exact .inl rfl

def GameV (a : Option Addr) (n c : Nat) (cap fuel : Int) : Value := .agg #[.slice a n c, .int .i64 cap, .int .i64 fuel]

set_option maxRecDepth 100000 in
set_option maxHeartbeats 1600000 in
theorem vCheck_any {W0 w : World} {L : List Asn} (S : Sat W0 w L) {a : Option Addr} {n c : Nat} {code : List (Int × Int)} (hR : ∀ w', Sat W0 w' L → Rd w' a (insv code)) (hn : code.length = n) (hnm : n ≤ maxLen) (cap fuel : Int) :
    Calls Tryz.prog 26 #[.agg #[.slice a n c, .int .i64 cap, .int .i64 fuel]] w fun e w' => e = .returned (.int .i64 (checkP code cap fuel)) ∧ Sat W0 w' L := by
  have S1 := S.alloc [.slice a n c, .int .i64 cap, .int .i64 fuel] 24
  have hR1 : ∀ w', Sat W0 w' (blk w.heap.size [.slice a n c, .int .i64 cap, .int .i64 fuel] 24 :: L) → Rd w' a (insv code) := fun w' h => hR w' h.tail
  have HN := Lib.hid hn
  obtain ⟨e, he⟩ : ∃ e, codeP code = e := ⟨_, rfl⟩
  have hce := codeP_bd code
  rw [he] at hce
  have HE := Lib.hid he
  clear he hn
  rcases hce with rfl | hce
  · have hchk : checkP code cap fuel = if cap < 1 ∨ 600 < cap ∨ fuel < 1 ∨ 2000 < fuel then 1 else 0 := by
      unfold checkP; rw [if_neg (by rw [HE.out]; simp)]
    have HC := Lib.hid hchk
    clear hchk
    have hcase : cap < 1 ∨ (1 ≤ cap ∧ 600 < cap) ∨ (1 ≤ cap ∧ cap ≤ 600 ∧ fuel < 1) ∨ (1 ≤ cap ∧ cap ≤ 600 ∧ 1 ≤ fuel ∧ 2000 < fuel) ∨ (1 ≤ cap ∧ cap ≤ 600 ∧ 1 ≤ fuel ∧ fuel ≤ 2000) := by omega
    rcases hcase with h | ⟨h, h1⟩ | ⟨h, h1, h2⟩ | ⟨h, h1, h2, h3⟩ | ⟨h, h1, h2, h3⟩
    all_goals
      go_enter Tryz.func26, Tryz.ntmps26
      go_wp2_with (go_at_call 45; refine (codeCheck_any S1 hR1 HN.out hnm).mono ?_; unfold Coded; rintro e w2 ⟨i, rfl, S2⟩; rw [HE.out]; have d1 := S2.cell 0 rfl 1; have d2 := S2.cell 0 rfl 2; simp only [List.getElem?_cons_zero, List.getElem?_cons_succ] at d1 d2)
      go_ret
      refine ⟨?_, S2.tail⟩
      rw [HC.out]
      first
        | (rw [if_pos (by omega)]; rfl)
        | (rw [if_neg (by omega)]; rfl)
  · have hne : (e != 0) = true := by rcases hce with rfl | rfl <;> rfl
    have hchk : checkP code cap fuel = e := by
      unfold checkP
      rw [if_pos (by rw [HE.out]; rcases hce with rfl | rfl <;> decide), HE.out]
    have HC := Lib.hid hchk
    clear hchk hce
    go_enter Tryz.func26, Tryz.ntmps26
    go_wp2_with (go_at_call 45; refine (codeCheck_any S1 hR1 HN.out hnm).mono ?_; unfold Coded; rintro e' w2 ⟨i, rfl, S2⟩; rw [HE.out])
    go_ret
    exact ⟨by rw [HC.out]; rfl, S2.tail⟩

/-! ### states as cells -/
section
variable {s : VS}
theorem svals_cell (h : s.cells.length = 16) {k : Nat} (hk : k < 16) : (svals s)[1 + k]? = some (.int .i32 (s.cells[k]?.getD 0)) := by
  unfold svals
  rw [show 1 + k = k + 1 by omega, List.getElem?_cons_succ, List.getElem?_append_left (by rw [List.length_map]; omega), List.getElem?_map, List.getElem?_eq_getElem (by omega)]
  rfl
theorem svals_tail (h : s.cells.length = 16) (k : Nat) : (svals s)[17 + k]? = ([.int .u32 s.seed, .bool s.over, .int .i64 s.winner] : List Value)[k]? := by
  unfold svals
  rw [show 17 + k = (16 + k) + 1 by omega, List.getElem?_cons_succ, List.getElem?_append_right (by rw [List.length_map]; omega), List.length_map, h]
  congr 1
  omega
theorem svals_length (h : s.cells.length = 16) : (svals s).length = 20 := by simp [svals, h]
theorem svals_one (s : VS) : ∀ u ∈ svals s, u.oneCell' = true := by
  intro u hu
  simp only [svals, List.mem_cons, List.mem_append, List.mem_map, List.not_mem_nil, or_false] at hu
  rcases hu with rfl | ⟨x, _, rfl⟩ | rfl | rfl | rfl <;> rfl
theorem svals_setFrame (v : Int) : (svals s).set 0 (.int .i64 v) = svals { s with frame := v } := rfl
theorem svals_setOver (h : s.cells.length = 16) (v : Bool) : (svals s).set 18 (.bool v) = svals { s with over := v } :=
  set_tail _ _ _ (by rw [List.length_map, h]) 1 _
theorem svals_setWinner (h : s.cells.length = 16) (v : Int) : (svals s).set 19 (.int .i64 v) = svals { s with winner := v } :=
  set_tail _ _ _ (by rw [List.length_map, h]) 2 _
end

structure StAt (w : World) (p : Nat) (s : VS) : Prop where
  frame : w.cell? ⟨p, 0, none⟩ = some (.int .i64 s.frame)
  seed : w.cell? ⟨p, 17, none⟩ = some (.int .u32 s.seed)
  over : w.cell? ⟨p, 18, none⟩ = some (.bool s.over)
  winner : w.cell? ⟨p, 19, none⟩ = some (.int .i64 s.winner)
  cells : ∀ k, k < 16 → w.cell? ⟨p, 1 + k, none⟩ = some (.int .i32 (s.cells[k]?.getD 0))
  free : ∀ k, w.frozen? ⟨p, k, none⟩ = false
theorem st_at {W0 w : World} {L : List Asn} {p : Nat} {s : VS} (h : s.cells.length = 16) (S : Sat W0 w (blk p (svals s) 46 :: L)) : StAt w p s :=
  ⟨S.cell 0 rfl 0, (S.cell 0 rfl 17).trans (svals_tail h 0), (S.cell 0 rfl 18).trans (svals_tail h 1), (S.cell 0 rfl 19).trans (svals_tail h 2), fun k hk => (S.cell 0 rfl (1 + k)).trans (svals_cell h hk), fun k => S.frozen 0 rfl k⟩

set_option maxRecDepth 100000 in
set_option maxHeartbeats 1600000 in
theorem isState_any {W0 w : World} {L : List Asn} (S : Sat W0 w L) {s : VS} (h : s.cells.length = 16) :
    Calls Tryz.prog 63 #[.agg (svals s).toArray] w fun e w' => e = .returned (.bool (isP s)) ∧ Sat W0 w' L := by
  have S1 := S.alloc (svals s) 46
  have hA := st_at h S1
  have c0 := hA.frame
  have c18 := hA.over
  have c19 := hA.winner
  have HI : Hid (isP s = (decide (0 ≤ s.frame) && (decide (s.frame ≤ 600) && (decide (0 ≤ s.winner) && (decide (s.winner ≤ 2) && (s.over || decide (s.winner = 0))))))) := rfl
  generalize svals s = cs at S1 c0 c18 c19 ⊢
  generalize s.frame = f at c0 HI
  generalize s.winner = wi at c19 HI
  generalize s.over = ov at c18 HI
  clear hA
  have hcase : f < 0 ∨ (0 ≤ f ∧ 600 < f) ∨ (0 ≤ f ∧ f ≤ 600 ∧ wi < 0) ∨ (0 ≤ f ∧ f ≤ 600 ∧ 0 ≤ wi ∧ 2 < wi) ∨ (0 ≤ f ∧ f ≤ 600 ∧ 0 ≤ wi ∧ wi ≤ 2 ∧ ov = true) ∨ (0 ≤ f ∧ f ≤ 600 ∧ wi = 0 ∧ ov = false) ∨ (0 ≤ f ∧ f ≤ 600 ∧ 1 ≤ wi ∧ wi ≤ 2 ∧ ov = false) := by
    cases ov <;> simp <;> omega
  rcases hcase with h0 | ⟨h0, h1⟩ | ⟨h0, h1, h2⟩ | ⟨h0, h1, h2, h3⟩ | ⟨h0, h1, h2, h3, rfl⟩ | ⟨h0, h1, rfl, rfl⟩ | ⟨h0, h1, h2, h3, rfl⟩
  case inr.inr.inr.inr.inr.inr =>
    have hz : (wi == 0) = false := by rw [beq_eq_false_iff_ne]; omega
    go_enter Tryz.func63, Tryz.ntmps63
    go_wp2_with fail
    go_ret
    refine ⟨?_, S1.tail⟩
    rw [HI.out]
    simp; omega
  all_goals
    go_enter Tryz.func63, Tryz.ntmps63
    go_wp2_with fail
    go_ret
    refine ⟨?_, S1.tail⟩
    rw [HI.out]
    simp
    try omega
end Go.Proofs.YtjdeeloemhjbhaaGreat
