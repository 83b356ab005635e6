/-
  Chapter 10's document: some of the instructions done.
-/
import Derived.Test.YtpcffejanlokiaaVmWz
namespace Go.Proofs.Ytpcffejanlokiaa
open Go.RowKit Go.Sep Go.Vm
set_option linter.unusedSimpArgs false
set_option linter.unusedVariables false

set_option maxRecDepth 100000 in
set_option maxHeartbeats 6400000 in
theorem does_op14 {W0 w : World} {L : List Asn} {p : Nat} {m : RM} (S : Sat W0 w (Rc p m :: L)) (hm : RM.Ok m) (hpc : 0 ≤ m.pc ∧ m.pc ≤ 300) {arg : Int} {n : Nat} (hmay : mayP 14 arg n = true) (hfew : ¬ m.st.length < takesP 14) :
    Calls Try.prog 26 #[.pointer (some ⟨p, 0, none⟩), .agg #[.int .i64 14, .int .i64 arg], .int .i64 n] w (DoesPost W0 L p (doesP 14 arg n m)) := by
  have S1 : Sat W0 (w.alloc (.cells #[.int .i64 14, .int .i64 arg] 68)) (Rc p m :: blk w.heap.size [.int .i64 14, .int .i64 arg] 68 :: L) := (S.alloc [.int .i64 14, .int .i64 arg] 68).sel [1]
  obtain ⟨ao, cap, S2⟩ := Rc_open.1 S1
  have h := hm.len
  have c22 := (rc_at h S2).st
  have hf : ¬ (m.st.length : Int) < (takesP 14 : Int) := by omega
  have HE := Lib.hid (doesP_act (n := n) (arg := arg) (m := m) hfew (by decide) (by decide))
  have hm1 : RM.Ok { m with pc := m.pc + 1 } := ⟨hm.len, hm.st, hm.i0, hm.i1, hm.seed, hm.frame, hm.stl⟩
  have HT : Hid (takesP 14 = takesP 14) := rfl
  generalize htk : takesP 14 = tk at hf hfew HT
  have htk' := Lib.hid htk
  clear hfew htk HT
  go_enter Try.func26, Try.ntmps26
  go_wp2_with fail
  go_quiet (first | (go_at_call 33; exact Calls.quiet_of_same ((takes_any _ 14 ⟨by decide, by decide⟩).mono fun _ _ ⟨a, b⟩ => ⟨a.trans (by rw [htk'.out]), b.symm⟩)))
  have S3 := S1.drewN nq
  generalize (w.alloc (.cells #[.int .i64 14, .int .i64 arg] 68)).drewN nq = w3 at S3 ⊢
  generalize w.heap.size = y at S3 ⊢
  obtain ⟨ao3, cap3, S4⟩ := Rc_open.1 S3
  have hA := rc_at h S4
  have xc := S3.cell 1 rfl 0
  have xa := S3.cell 1 rfl 1
  simp only [List.getElem?_cons_zero, List.getElem?_cons_succ] at xc xa
  have c23 := hA.pc
  have f23 := hA.free 23
  have S5 := Rc_open.2 ⟨ao3, cap3, rc_pc h S4 (m.pc + 1)⟩
  clear hA
  go_upto_block 0 with fail
  generalize w3.setCell ⟨p, 23, none⟩ (.int .i64 (m.pc + 1)) = w6 at S5 ⊢
  obtain ⟨m1, hm1e⟩ : ∃ m1 : RM, m1 = { m with pc := m.pc + 1 } := ⟨_, rfl⟩
  have S6 : Sat W0 w6 (Rc p m1 :: blk y [.int .i64 14, .int .i64 arg] 68 :: L) := by rw [hm1e]; exact S5
  rw [← hm1e] at hm1 HE
  clear S5 S4 S3 S2 S1 S c22 c23 f23 xc xa hf hpc h hm hm1e
  have xc := S6.cell 1 rfl 0
  have xa := S6.cell 1 rfl 1
  simp only [List.getElem?_cons_zero, List.getElem?_cons_succ] at xc xa
  have hl := hm1.len
  go_cut [] (fun wx => ∃ m2, m2 = actP 14 arg m1 ∧ Sat W0 wx (Rc p m2 :: blk y [.int .i64 14, .int .i64 arg] 68 :: L))
  case first =>
    clear HE
    obtain ⟨v, m', hp⟩ : ∃ v m', m1.pop = (v, m') := ⟨_, _, rfl⟩
    have h1 := rpop_len hl hp
    obtain ⟨u, m'', hq⟩ : ∃ u m'', m'.pop = (u, m'') := ⟨_, _, rfl⟩
    have h2 := rpop_len h1 hq
    have h3 := rpush_len h2 v
    have HV : Hid (actP 14 arg m1 = (m''.push v).push u) := by show _ = _; show (m1.pop.2.pop.2.push m1.pop.1).push m1.pop.2.pop.1 = _; rw [hp, hq]
    have HP := Lib.hid hp
    have HQ := Lib.hid hq
    clear hp hq
    go_wp2_with (first
      | (go_at_call 34; refine (rpush_any h3 S9 u).mono ?_; rintro e w' ⟨rfl, S10⟩)
      | (go_at_call 34; refine (rpush_any h2 S8 v).mono ?_; rintro e w' ⟨rfl, S9⟩)
      | (go_at_call 35; refine (rpop_any h1 S7 HQ.out).mono ?_; rintro e w' ⟨rfl, S8⟩)
      | (go_at_call 35; refine (rpop_any hl S6 HP.out).mono ?_; rintro e w' ⟨rfl, S7⟩))
    go_meet
    exact ⟨_, rfl, by rw [HV.out]; exact S10⟩
  case rest =>
    obtain ⟨m2, hm2, S7⟩ := hcut
    have h2 : m2.s.cells.length = 16 := by rw [hm2]; exact actP_len hl
    rw [← hm2] at HE
    obtain ⟨ao4, cap4, S8⟩ := Rc_open.1 S7
    have hB := rc_at h2 S8
    have c25 := hB.bad
    have c23 := hB.pc
    clear hB hm2
    cases hbd : m2.bad with
    | true =>
      rw [hbd] at c25 HE
      go_wp2_with fail
      go_ret
      unfold DoesPost
      rw [HE.out]
      exact ⟨rfl, (S7.sel [1]).tail⟩
    | false =>
      rw [hbd] at c25 HE
      go_wp2_with fail
      go_ret
      unfold DoesPost
      rw [HE.out]
      exact ⟨by simp, (S7.sel [1]).tail⟩

set_option maxRecDepth 100000 in
set_option maxHeartbeats 6400000 in
theorem does_op21 {W0 w : World} {L : List Asn} {p : Nat} {m : RM} (S : Sat W0 w (Rc p m :: L)) (hm : RM.Ok m) (hpc : 0 ≤ m.pc ∧ m.pc ≤ 300) {arg : Int} {n : Nat} (hmay : mayP 21 arg n = true) (hfew : ¬ m.st.length < takesP 21) :
    Calls Try.prog 26 #[.pointer (some ⟨p, 0, none⟩), .agg #[.int .i64 21, .int .i64 arg], .int .i64 n] w (DoesPost W0 L p (doesP 21 arg n m)) := by
  have S1 : Sat W0 (w.alloc (.cells #[.int .i64 21, .int .i64 arg] 68)) (Rc p m :: blk w.heap.size [.int .i64 21, .int .i64 arg] 68 :: L) := (S.alloc [.int .i64 21, .int .i64 arg] 68).sel [1]
  obtain ⟨ao, cap, S2⟩ := Rc_open.1 S1
  have h := hm.len
  have c22 := (rc_at h S2).st
  have hf : ¬ (m.st.length : Int) < (takesP 21 : Int) := by omega
  have HE := Lib.hid (doesP_act (n := n) (arg := arg) (m := m) hfew (by decide) (by decide))
  have hm1 : RM.Ok { m with pc := m.pc + 1 } := ⟨hm.len, hm.st, hm.i0, hm.i1, hm.seed, hm.frame, hm.stl⟩
  have HT : Hid (takesP 21 = takesP 21) := rfl
  generalize htk : takesP 21 = tk at hf hfew HT
  have htk' := Lib.hid htk
  clear hfew htk HT
  go_enter Try.func26, Try.ntmps26
  go_wp2_with fail
  go_quiet (first | (go_at_call 33; exact Calls.quiet_of_same ((takes_any _ 21 ⟨by decide, by decide⟩).mono fun _ _ ⟨a, b⟩ => ⟨a.trans (by rw [htk'.out]), b.symm⟩)))
  have S3 := S1.drewN nq
  generalize (w.alloc (.cells #[.int .i64 21, .int .i64 arg] 68)).drewN nq = w3 at S3 ⊢
  generalize w.heap.size = y at S3 ⊢
  obtain ⟨ao3, cap3, S4⟩ := Rc_open.1 S3
  have hA := rc_at h S4
  have xc := S3.cell 1 rfl 0
  have xa := S3.cell 1 rfl 1
  simp only [List.getElem?_cons_zero, List.getElem?_cons_succ] at xc xa
  have c23 := hA.pc
  have f23 := hA.free 23
  have S5 := Rc_open.2 ⟨ao3, cap3, rc_pc h S4 (m.pc + 1)⟩
  clear hA
  go_upto_block 0 with fail
  generalize w3.setCell ⟨p, 23, none⟩ (.int .i64 (m.pc + 1)) = w6 at S5 ⊢
  obtain ⟨m1, hm1e⟩ : ∃ m1 : RM, m1 = { m with pc := m.pc + 1 } := ⟨_, rfl⟩
  have S6 : Sat W0 w6 (Rc p m1 :: blk y [.int .i64 21, .int .i64 arg] 68 :: L) := by rw [hm1e]; exact S5
  rw [← hm1e] at hm1 HE
  clear S5 S4 S3 S2 S1 S c22 c23 f23 xc xa hf hpc h hm hm1e
  have xc := S6.cell 1 rfl 0
  have xa := S6.cell 1 rfl 1
  simp only [List.getElem?_cons_zero, List.getElem?_cons_succ] at xc xa
  have hl := hm1.len
  go_cut [] (fun wx => ∃ m2, m2 = actP 21 arg m1 ∧ Sat W0 wx (Rc p m2 :: blk y [.int .i64 21, .int .i64 arg] 68 :: L))
  case first =>
    clear HE
    obtain ⟨ao2, cap2, S7⟩ := Rc_open.1 S6
    have c1 := (rc_at hl S7).seed
    have f1 := (rc_at hl S7).free 17
    have hs := hm1.seed
    obtain ⟨x1, hx1⟩ : ∃ x1, bits .xor .u32 m1.s.seed (m1.s.seed * 8192 % 4294967296) = x1 := ⟨_, rfl⟩
    obtain ⟨x2, hx2⟩ : ∃ x2, bits .xor .u32 x1 (x1 / 131072) = x2 := ⟨_, rfl⟩
    obtain ⟨x3, hx3⟩ : ∃ x3, bits .xor .u32 x2 (x2 * 32 % 4294967296) = x3 := ⟨_, rfl⟩
    have b1 : 0 ≤ x1 ∧ x1 < 4294967296 := by rw [← hx1]; exact xor32_bd hs (by omega)
    have b2 : 0 ≤ x2 ∧ x2 < 4294967296 := by rw [← hx2]; exact xor32_bd b1 (by omega)
    have b3 : 0 ≤ x3 ∧ x3 < 4294967296 := by rw [← hx3]; exact xor32_bd b2 (by omega)
    have hn : nextSeed m1.s.seed = x3 := by unfold nextSeed xs13 xs17 xs5; rw [hx1, hx2, hx3]
    have hx4 := and_u32_low b3.1 b3.2
    have HV : Hid (actP 21 arg m1 = RM.push { m1 with s := { m1.s with seed := x3 } } (x3 % 65536)) := by show _ = _; rw [← hn]; rfl
    have S8 := Rc_open.2 ⟨ao2, cap2, rc_seed hl S7 x3⟩
    clear hn
    go_wp2_with (go_at_call 34; refine (rpush_any (m := { m1 with s := { m1.s with seed := x3 } }) hl S8 (x3 % 65536)).mono ?_; rintro e w' ⟨rfl, S9⟩)
    go_meet
    exact ⟨_, rfl, by rw [HV.out]; exact S9⟩
  case rest =>
    obtain ⟨m2, hm2, S7⟩ := hcut
    have h2 : m2.s.cells.length = 16 := by rw [hm2]; exact actP_len hl
    rw [← hm2] at HE
    obtain ⟨ao4, cap4, S8⟩ := Rc_open.1 S7
    have hB := rc_at h2 S8
    have c25 := hB.bad
    have c23 := hB.pc
    clear hB hm2
    cases hbd : m2.bad with
    | true =>
      rw [hbd] at c25 HE
      go_wp2_with fail
      go_ret
      unfold DoesPost
      rw [HE.out]
      exact ⟨rfl, (S7.sel [1]).tail⟩
    | false =>
      rw [hbd] at c25 HE
      go_wp2_with fail
      go_ret
      unfold DoesPost
      rw [HE.out]
      exact ⟨by simp, (S7.sel [1]).tail⟩

end Go.Proofs.Ytpcffejanlokiaa
