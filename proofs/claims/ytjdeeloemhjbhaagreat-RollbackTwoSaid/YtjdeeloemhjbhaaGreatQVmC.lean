/-
  code, vm: whether a program, a game, a state is one.
-/
import Derived.Test.YtjdeeloemhjbhaaGreatQVmT

namespace Go.Proofs.YtjdeeloemhjbhaaGreat
open Go.RowKit Go.Sep Go.Vm

def insv (l : List (Int × Int)) : List Value := (l.map fun x => [Value.int .i64 x.1, .int .i64 x.2]).flatten
theorem insv_at : ∀ {l : List (Int × Int)} {k : Nat} {x : Int × Int}, l[k]? = some x → (insv l)[k * 2]? = some (.int .i64 x.1) ∧ (insv l)[k * 2 + 1]? = some (.int .i64 x.2)
  | [], k, x, h => by simp at h
  | y :: r, 0, x, h => by
    obtain rfl : y = x := by simpa using h
    exact ⟨rfl, rfl⟩
  | y :: r, k + 1, x, h => by
    have ih := insv_at (l := r) (k := k) (x := x) (by simpa using h)
    rw [show (k + 1) * 2 = k * 2 + 1 + 1 by omega]
    exact ih
theorem insv_cells {w : World} {a : Option Addr} {l : List (Int × Int)} (h : Rd w a (insv l)) {k : Nat} {x : Int × Int} (hx : l[k]? = some x) : ∃ b off, a = some ⟨b, off, none⟩ ∧
    w.cell? ⟨b, off + k * 2, none⟩ = some (.int .i64 x.1) ∧ w.cell? ⟨b, off + k * 2 + 1, none⟩ = some (.int .i64 x.2) := by
  obtain ⟨h1, h2⟩ := insv_at hx
  obtain ⟨b, off, rfl, c1⟩ := h _ _ h1
  exact ⟨b, off, rfl, c1, by have := h.at h2; rwa [← Nat.add_assoc] at this⟩
theorem insv_length (l : List (Int × Int)) : (insv l).length = l.length * 2 := by
  induction l with
  | nil => rfl
  | cons x r ih =>
    show (_ ++ insv r).length = _
    rw [List.length_append, ih]; simp; omega

theorem may1 (arg : Int) (n : Nat) : mayP 1 arg n = decide (-2147483648 ≤ arg ∧ arg ≤ 2147483647) := by
  unfold mayP
  simp

theorem may2 (arg : Int) (n : Nat) : mayP 2 arg n = decide (0 ≤ arg ∧ arg ≤ 15) := by
  unfold mayP
  simp

theorem may3 (arg : Int) (n : Nat) : mayP 3 arg n = decide (0 ≤ arg ∧ arg ≤ 15) := by
  unfold mayP
  simp

theorem may4 (arg : Int) (n : Nat) : mayP 4 arg n = decide (0 ≤ arg ∧ arg ≤ 0) := by
  unfold mayP
  rw [Bool.eq_iff_iff]
  simp
  omega

theorem may5 (arg : Int) (n : Nat) : mayP 5 arg n = decide (0 ≤ arg ∧ arg ≤ 0) := by
  unfold mayP
  rw [Bool.eq_iff_iff]
  simp
  omega

theorem may6 (arg : Int) (n : Nat) : mayP 6 arg n = decide (0 ≤ arg ∧ arg ≤ 0) := by
  unfold mayP
  rw [Bool.eq_iff_iff]
  simp
  omega

theorem may7 (arg : Int) (n : Nat) : mayP 7 arg n = decide (0 ≤ arg ∧ arg ≤ 0) := by
  unfold mayP
  rw [Bool.eq_iff_iff]
  simp
  omega

theorem may8 (arg : Int) (n : Nat) : mayP 8 arg n = decide (0 ≤ arg ∧ arg ≤ 0) := by
  unfold mayP
  rw [Bool.eq_iff_iff]
  simp
  omega

theorem may9 (arg : Int) (n : Nat) : mayP 9 arg n = decide (0 ≤ arg ∧ arg ≤ 0) := by
  unfold mayP
  rw [Bool.eq_iff_iff]
  simp
  omega

theorem may10 (arg : Int) (n : Nat) : mayP 10 arg n = decide (0 ≤ arg ∧ arg ≤ 0) := by
  unfold mayP
  rw [Bool.eq_iff_iff]
  simp
  omega

theorem may11 (arg : Int) (n : Nat) : mayP 11 arg n = decide (0 ≤ arg ∧ arg ≤ 0) := by
  unfold mayP
  rw [Bool.eq_iff_iff]
  simp
  omega

theorem may12 (arg : Int) (n : Nat) : mayP 12 arg n = decide (0 ≤ arg ∧ arg ≤ 0) := by
  unfold mayP
  rw [Bool.eq_iff_iff]
  simp
  omega

theorem may13 (arg : Int) (n : Nat) : mayP 13 arg n = decide (0 ≤ arg ∧ arg ≤ 0) := by
  unfold mayP
  rw [Bool.eq_iff_iff]
  simp
  omega

theorem may14 (arg : Int) (n : Nat) : mayP 14 arg n = decide (0 ≤ arg ∧ arg ≤ 0) := by
  unfold mayP
  rw [Bool.eq_iff_iff]
  simp
  omega

theorem may15 (arg : Int) (n : Nat) : mayP 15 arg n = decide (0 ≤ arg ∧ arg ≤ 0) := by
  unfold mayP
  rw [Bool.eq_iff_iff]
  simp
  omega

theorem may16 (arg : Int) (n : Nat) : mayP 16 arg n = decide (0 ≤ arg ∧ arg ≤ 1) := by
  unfold mayP
  simp

theorem may17 (arg : Int) (n : Nat) : mayP 17 arg n = decide (0 ≤ arg ∧ arg ≤ 0) := by
  unfold mayP
  rw [Bool.eq_iff_iff]
  simp
  omega

theorem may18 (arg : Int) (n : Nat) : mayP 18 arg n = decide (0 ≤ arg ∧ arg ≤ (n : Int)) := by
  unfold mayP
  simp

theorem may19 (arg : Int) (n : Nat) : mayP 19 arg n = decide (0 ≤ arg ∧ arg ≤ (n : Int)) := by
  unfold mayP
  simp

theorem may20 (arg : Int) (n : Nat) : mayP 20 arg n = decide (0 ≤ arg ∧ arg ≤ 2) := by
  unfold mayP
  simp

theorem may21 (arg : Int) (n : Nat) : mayP 21 arg n = decide (0 ≤ arg ∧ arg ≤ 0) := by
  unfold mayP
  rw [Bool.eq_iff_iff]
  simp
  omega

theorem may22 (arg : Int) (n : Nat) : mayP 22 arg n = decide (0 ≤ arg ∧ arg ≤ 0) := by
  unfold mayP
  rw [Bool.eq_iff_iff]
  simp
  omega

theorem may_no {op arg : Int} {n : Nat} (h : ¬ (1 ≤ op ∧ op ≤ 22)) : mayP op arg n = false := by
  unfold mayP
  rw [if_neg (by omega), if_neg (by omega), if_neg (by omega), if_neg (by omega), if_neg (by omega)]
  simp
  omega

theorem firstBad_le (n : Nat) : ∀ l, firstBad n l ≤ l.length
  | [] => Nat.le_refl _
  | x :: r => by
    have := firstBad_le n r
    simp only [firstBad]
    split <;> simp <;> omega
theorem firstBad_drop {n : Nat} {l : List (Int × Int)} {k : Nat} {x : Int × Int} (hx : l[k]? = some x) : firstBad n (l.drop k) = if mayP x.1 x.2 n then firstBad n (l.drop (k + 1)) + 1 else 0 := by
  obtain ⟨h1, h2⟩ := List.getElem?_eq_some_iff.1 hx
  rw [← List.getElem_cons_drop h1, h2]
  rfl

structure Tbl (w : World) (pt q0 qa qb qc qd : Nat) : Prop where
  at_ : ∀ k, w.cell? ⟨pt, k, none⟩ = (tbl q0 qa qb qc qd)[k]?
  c0 : w.cell? ⟨q0, 0, none⟩ = some (.int .i64 0)
  ca : w.cell? ⟨qa, 0, none⟩ = some (.int .i64 15)
  cb : w.cell? ⟨qb, 0, none⟩ = some (.int .i64 15)
  cc : w.cell? ⟨qc, 0, none⟩ = some (.int .i64 1)
  cd : w.cell? ⟨qd, 0, none⟩ = some (.int .i64 2)
theorem tbl_at {W0 w : World} {L : List Asn} {pt q0 qa qb qc qd : Nat} (S : Sat W0 w (blk pt (tbl q0 qa qb qc qd) 120 :: num1 qd 2 :: num1 qc 1 :: num1 qb 15 :: num1 qa 15 :: num1 q0 0 :: L)) : Tbl w pt q0 qa qb qc qd :=
  ⟨fun k => S.cell 0 rfl k, S.cell 5 rfl 0, S.cell 4 rfl 0, S.cell 3 rfl 0, S.cell 2 rfl 0, S.cell 1 rfl 0⟩

theorem tbl_op {w : World} {pt q0 qa qb qc qd : Nat} (T : Tbl w pt q0 qa qb qc qd) {j : Nat} (h1 : 1 ≤ j) (h2 : j ≤ 22) (arg : Int) (n : Nat) :
    (w.cell? ⟨pt, j * 3 + 2, none⟩ = some (.func (.func 73) #[] #[]) ∧ mayP j arg n = decide (-2147483648 ≤ arg ∧ arg ≤ 2147483647)) ∨
    (w.cell? ⟨pt, j * 3 + 2, none⟩ = some (.func (.func 74) #[] #[]) ∧ mayP j arg n = decide (0 ≤ arg ∧ arg ≤ (n : Int))) ∨
    (∃ q lim, w.cell? ⟨pt, j * 3 + 2, none⟩ = some (up q) ∧ w.cell? ⟨q, 0, none⟩ = some (.int .i64 lim) ∧ mayP j arg n = decide (0 ≤ arg ∧ arg ≤ lim)) := by
  have hc : j = 1 ∨ j = 2 ∨ j = 3 ∨ j = 4 ∨ j = 5 ∨ j = 6 ∨ j = 7 ∨ j = 8 ∨ j = 9 ∨ j = 10 ∨ j = 11 ∨ j = 12 ∨ j = 13 ∨ j = 14 ∨ j = 15 ∨ j = 16 ∨ j = 17 ∨ j = 18 ∨ j = 19 ∨ j = 20 ∨ j = 21 ∨ j = 22 := by omega
  rcases hc with rfl | rfl | rfl | rfl | rfl | rfl | rfl | rfl | rfl | rfl | rfl | rfl | rfl | rfl | rfl | rfl | rfl | rfl | rfl | rfl | rfl | rfl
  · exact .inl ⟨T.at_ 5, may1 arg n⟩
  · exact .inr (.inr ⟨qa, 15, T.at_ 8, T.ca, may2 arg n⟩)
  · exact .inr (.inr ⟨qb, 15, T.at_ 11, T.cb, may3 arg n⟩)
  · exact .inr (.inr ⟨q0, 0, T.at_ 14, T.c0, may4 arg n⟩)
  · exact .inr (.inr ⟨q0, 0, T.at_ 17, T.c0, may5 arg n⟩)
  · exact .inr (.inr ⟨q0, 0, T.at_ 20, T.c0, may6 arg n⟩)
  · exact .inr (.inr ⟨q0, 0, T.at_ 23, T.c0, may7 arg n⟩)
  · exact .inr (.inr ⟨q0, 0, T.at_ 26, T.c0, may8 arg n⟩)
  · exact .inr (.inr ⟨q0, 0, T.at_ 29, T.c0, may9 arg n⟩)
  · exact .inr (.inr ⟨q0, 0, T.at_ 32, T.c0, may10 arg n⟩)
  · exact .inr (.inr ⟨q0, 0, T.at_ 35, T.c0, may11 arg n⟩)
  · exact .inr (.inr ⟨q0, 0, T.at_ 38, T.c0, may12 arg n⟩)
  · exact .inr (.inr ⟨q0, 0, T.at_ 41, T.c0, may13 arg n⟩)
  · exact .inr (.inr ⟨q0, 0, T.at_ 44, T.c0, may14 arg n⟩)
  · exact .inr (.inr ⟨q0, 0, T.at_ 47, T.c0, may15 arg n⟩)
  · exact .inr (.inr ⟨qc, 1, T.at_ 50, T.cc, may16 arg n⟩)
  · exact .inr (.inr ⟨q0, 0, T.at_ 53, T.c0, may17 arg n⟩)
  · exact .inr (.inl ⟨T.at_ 56, may18 arg n⟩)
  · exact .inr (.inl ⟨T.at_ 59, may19 arg n⟩)
  · exact .inr (.inr ⟨qd, 2, T.at_ 62, T.cd, may20 arg n⟩)
  · exact .inr (.inr ⟨q0, 0, T.at_ 65, T.c0, may21 arg n⟩)
  · exact .inr (.inr ⟨q0, 0, T.at_ 68, T.c0, may22 arg n⟩)

def Coded (W0 : World) (L : List Asn) (code : List (Int × Int)) (e : Ending) (w' : World) : Prop :=
  ∃ i : Int, e = .returned (.tuple #[.int .i64 i, .int .i64 (codeP code)]) ∧ Sat W0 w' L

set_option maxRecDepth 100000 in
set_option maxHeartbeats 3200000 in
theorem codeCheck_any {W0 w : World} {L : List Asn} (S : Sat W0 w L) {a : Option Addr} {n c : Nat} {code : List (Int × Int)} (hR : ∀ w', Sat W0 w' L → Rd w' a (insv code)) (hn : code.length = n) (hnm : n ≤ maxLen) :
    Calls Tryz.prog 45 #[.slice a n c] w (Coded W0 L code) := by
  unfold maxLen at hnm
  by_cases hbig : 256 < n
  · have HC : Hid (codeP code = 5) := by show _ = _; unfold codeP; rw [if_pos (by omega)]
    clear hn
    go_enter Tryz.func45, Tryz.ntmps45
    go_wp2_with fail
    go_ret2
    exact ⟨0, by rw [HC.out]; rfl, S⟩
  · have HN := Lib.hid hn
    have HR := Lib.hid hR
    clear hn hR
    go_enter Tryz.func45, Tryz.ntmps45
    go_wp2_with (first
      | (refine wpList_store_sat (news := tbl q0 qa qb qc qd) (n := 69) rfl 120 _ _ rfl S3 rfl rfl rfl (by decide) Tryz.sizeT (tbl_one q0 qa qb qc qd) ?_; intro w3 S4)
      | (go_at_call 56; refine (table_any S).mono ?_; rintro e w1 ⟨q0, qa, qb, qc, qd, rfl, S2⟩; have hz : Tryz.zeroCells120 = tz.toArray := (by kernel_rfl); have S3 : Sat W0 (w1.alloc (.cells Tryz.zeroCells120 120)) (blk w1.heap.size tz 120 :: _) := (by rw [hz]; exact S2.alloc tz _); clear hz))
    have S5 : Sat W0 w3 (blk w1.heap.size (tbl q0 qa qb qc qd) 120 :: num1 qd 2 :: num1 qc 1 :: num1 qb 15 :: num1 qa 15 :: num1 q0 0 :: L) := S4
    generalize w1.heap.size = pt at S5 ⊢
    clear S2 S3 S4
    go_loopw [13] (fun i wr => ∃ k : Nat, k ≤ n ∧ i = .int .i64 k ∧ Hid (firstBad n code = k + firstBad n (code.drop k)) ∧ Sat W0 wr (blk pt (tbl q0 qa qb qc qd) 120 :: num1 qd 2 :: num1 qc 1 :: num1 qb 15 :: num1 qa 15 :: num1 q0 0 :: L)) (fun i _ => n - (intOf i).toNat)
    case atStart => exact ⟨0, by omega, rfl, by show _ = _; simp, S5⟩
    case round =>
      clear S5
      obtain ⟨k, hk, rfl, HF, S6⟩ := hrel
      by_cases hlt : k < n
      · obtain ⟨x, hx⟩ : ∃ x, code[k]? = some x := ⟨code[k]'(by rw [HN.out]; exact hlt), List.getElem?_eq_getElem _⟩
        obtain ⟨bb, off, rfl, c0, c1⟩ := insv_cells (HR.out _ (Sat.tail (Sat.tail (Sat.tail (Sat.tail (Sat.tail (Sat.tail S6))))))) hx
        have hfd := firstBad_drop (n := n) hx
        have HFD := Lib.hid hfd
        have hle := firstBad_le n (code.drop k)
        obtain ⟨op, arg⟩ := x
        have S7 := (S6.alloc [.int .i64 op, .int .i64 arg] 95).sel [1, 1, 1, 1, 1, 1]
        have k0 : (0 : Int) ≤ (k : Int) := Int.natCast_nonneg _
        have k1 : (k : Int) < (n : Int) := by omega
        clear hx hfd
        go_wp2_with fail
        have hbad : mayP op arg n = false → codeP code = 3 := by
          intro hm
          have h0 := HF.out
          rw [HFD.out] at h0
          simp only [hm] at h0
          unfold codeP
          rw [if_neg (by rw [HN.out]; omega), HN.out, h0, if_pos (by simp; omega)]
        have hgood : mayP op arg n = true → firstBad n code = (k + 1 : Nat) + firstBad n (code.drop (k + 1)) := by
          intro hm
          have h0 := HF.out
          rw [HFD.out] at h0
          simp only [hm] at h0
          rw [h0]; simp; omega
        have HB := Lib.hid hbad
        have HG := Lib.hid hgood
        have c0 := S7.cell 6 rfl 0
        have c1 := S7.cell 6 rfl 1
        simp only [List.getElem?_cons_zero, List.getElem?_cons_succ] at c0 c1
        have S8 := Sat.tail (Sat.tail (Sat.tail (Sat.tail (Sat.tail (Sat.tail (Sat.tail S7))))))
        have S9 := (S7.sel [6]).tail
        clear hbad hgood HFD hle
        by_cases hop : 1 ≤ op ∧ op ≤ 22
        · have hcases : op = 1 ∨ op = 2 ∨ op = 3 ∨ op = 4 ∨ op = 5 ∨ op = 6 ∨ op = 7 ∨ op = 8 ∨ op = 9 ∨ op = 10 ∨ op = 11 ∨ op = 12 ∨ op = 13 ∨ op = 14 ∨ op = 15 ∨ op = 16 ∨ op = 17 ∨ op = 18 ∨ op = 19 ∨ op = 20 ∨ op = 21 ∨ op = 22 := by omega
          obtain ⟨j, rfl⟩ : ∃ j : Nat, op = (j : Int) := ⟨op.toNat, by omega⟩
          have HO : Hid (decide ((1 : Int) ≤ (j : Int) ∧ ((j : Int) ≤ 22)) = true) := decide_eq_true hop
          have hj0 : (0 : Int) ≤ (j : Int) := Int.natCast_nonneg _
          have hj1 : (j : Int) < 23 := by omega
          have hT := tbl_at S7
          rcases tbl_op hT (j := j) (by omega) (by omega) arg n with ⟨ct, hmy⟩ | ⟨ct, hmy⟩ | ⟨q, lim, ct, hq, hmy⟩
          · clear hT hcases hop
            cases hm : mayP j arg n
            · have HM := Lib.hid (hmy.symm.trans hm)
              have HMM := Lib.hid hm
              clear hm hmy
              go_quiet (first
                | (go_at_call 57; exact Calls.quiet_of_same ((isOp_any _ _).mono fun _ _ ⟨a, b⟩ => ⟨a.trans (ret_bool HO.out), b.symm⟩))
                | (go_at_call 73; exact Calls.quiet_of_same ((cnumber_any _ _ _).mono fun _ _ ⟨a, b⟩ => ⟨a.trans (ret_bool HM.out), b.symm⟩)))
              go_wp2_with fail
              go_ret2
              exact ⟨k, by rw [HB.out HMM.out]; rfl, S8.quiet ⟨_, rfl⟩⟩
            · have HM := Lib.hid (hmy.symm.trans hm)
              have HMM := Lib.hid hm
              clear hm hmy
              go_quiet (first
                | (go_at_call 57; exact Calls.quiet_of_same ((isOp_any _ _).mono fun _ _ ⟨a, b⟩ => ⟨a.trans (ret_bool HO.out), b.symm⟩))
                | (go_at_call 73; exact Calls.quiet_of_same ((cnumber_any _ _ _).mono fun _ _ ⟨a, b⟩ => ⟨a.trans (ret_bool HM.out), b.symm⟩)))
              go_wp2_with fail
              go_roundw
              case rel => exact ⟨k + 1, by omega, by go_num, HG.out HMM.out, S9.quiet ⟨_, rfl⟩⟩
              case measure => simp [intOf]; omega
          · clear hT hcases hop
            cases hm : mayP j arg n
            · have HM := Lib.hid (hmy.symm.trans hm)
              have HMM := Lib.hid hm
              clear hm hmy
              go_quiet (first
                | (go_at_call 57; exact Calls.quiet_of_same ((isOp_any _ _).mono fun _ _ ⟨a, b⟩ => ⟨a.trans (ret_bool HO.out), b.symm⟩))
                | (go_at_call 74; exact Calls.quiet_of_same ((cplace_any _ _ _).mono fun _ _ ⟨a, b⟩ => ⟨a.trans (ret_bool HM.out), b.symm⟩)))
              go_wp2_with fail
              go_ret2
              exact ⟨k, by rw [HB.out HMM.out]; rfl, S8.quiet ⟨_, rfl⟩⟩
            · have HM := Lib.hid (hmy.symm.trans hm)
              have HMM := Lib.hid hm
              clear hm hmy
              go_quiet (first
                | (go_at_call 57; exact Calls.quiet_of_same ((isOp_any _ _).mono fun _ _ ⟨a, b⟩ => ⟨a.trans (ret_bool HO.out), b.symm⟩))
                | (go_at_call 74; exact Calls.quiet_of_same ((cplace_any _ _ _).mono fun _ _ ⟨a, b⟩ => ⟨a.trans (ret_bool HM.out), b.symm⟩)))
              go_wp2_with fail
              go_roundw
              case rel => exact ⟨k + 1, by omega, by go_num, HG.out HMM.out, S9.quiet ⟨_, rfl⟩⟩
              case measure => simp [intOf]; omega
          · have cq := Lib.hid hq
            clear hT hcases hop hq
            cases hm : mayP j arg n
            · have HM := Lib.hid (hmy.symm.trans hm)
              have HMM := Lib.hid hm
              clear hm hmy
              go_quiet (first
                | (go_at_call 57; exact Calls.quiet_of_same ((isOp_any _ _).mono fun _ _ ⟨a, b⟩ => ⟨a.trans (ret_bool HO.out), b.symm⟩))
                | (go_at_call 87; exact Calls.quiet_of_same ((upTo1_any _ (by exact cq.out) _ _).mono fun _ _ ⟨a, b⟩ => ⟨a.trans (ret_bool HM.out), b.symm⟩)))
              go_wp2_with fail
              go_ret2
              exact ⟨k, by rw [HB.out HMM.out]; rfl, S8.quiet ⟨_, rfl⟩⟩
            · have HM := Lib.hid (hmy.symm.trans hm)
              have HMM := Lib.hid hm
              clear hm hmy
              go_quiet (first
                | (go_at_call 57; exact Calls.quiet_of_same ((isOp_any _ _).mono fun _ _ ⟨a, b⟩ => ⟨a.trans (ret_bool HO.out), b.symm⟩))
                | (go_at_call 87; exact Calls.quiet_of_same ((upTo1_any _ (by exact cq.out) _ _).mono fun _ _ ⟨a, b⟩ => ⟨a.trans (ret_bool HM.out), b.symm⟩)))
              go_wp2_with fail
              go_roundw
              case rel => exact ⟨k + 1, by omega, by go_num, HG.out HMM.out, S9.quiet ⟨_, rfl⟩⟩
              case measure => simp [intOf]; omega
        · have HO := Lib.hid (decide_eq_false hop)
          have HMM := Lib.hid (may_no (arg := arg) (n := n) hop)
          clear hop
          go_quiet (first
            | (go_at_call 57; exact Calls.quiet_of_same ((isOp_any _ _).mono fun _ _ ⟨a, b⟩ => ⟨a.trans (ret_bool HO.out), b.symm⟩)))
          go_wp2_with fail
          go_ret2
          exact ⟨k, by rw [HB.out HMM.out]; rfl, S8.quiet ⟨_, rfl⟩⟩
      · have HE : Hid (codeP code = 0) := by
          show _ = _
          unfold codeP
          have hk' : k = n := by omega
          have h0 := HF.out
          rw [hk', List.drop_of_length_le (by rw [HN.out]; omega)] at h0
          rw [if_neg (by rw [HN.out]; omega), HN.out, h0, if_neg (by simp [firstBad])]
        go_wp2_with fail
        go_ret2
        exact ⟨0, by rw [HE.out]; rfl, Sat.tail (Sat.tail (Sat.tail (Sat.tail (Sat.tail (Sat.tail S6)))))⟩
end Go.Proofs.YtjdeeloemhjbhaaGreat
