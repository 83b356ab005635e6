/-
  vm: a program runs within a frame.
-/
import Derived.StillTailTactics
import Derived.Test.YtjdeeloemhjbhaaGreatQVmE

namespace Go.Proofs.YtjdeeloemhjbhaaGreat
open Go.RowKit Go.Sep Go.Vm

def errP (r : Bool × VM) : Int := if r.1 then 0 else if r.2.bad then 11 else 10
def Ran (W0 : World) (L : List Asn) (p : Nat) (code : List (Int × Int)) (fuel : Nat) (m : VM) (e : Ending) (w' : World) : Prop :=
  e = .returned (.int .i64 (errP (runP code fuel m))) ∧ Sat W0 w' (Mc p (runP code fuel m).2 :: L)

/-- an instruction's block is left behind -/
theorem drop_y {W0 w : World} {A B1 B2 B3 B4 B5 B6 B7 B8 Y : Asn} {L : List Asn} (S : Sat W0 w (A :: B1 :: B2 :: B3 :: B4 :: B5 :: B6 :: B7 :: B8 :: Y :: L)) : Sat W0 w (A :: B1 :: B2 :: B3 :: B4 :: B5 :: B6 :: B7 :: B8 :: L) :=
  (S.sel [9]).tail
theorem may_op {op arg : Int} {n : Nat} (h : mayP op arg n = true) : 1 ≤ op ∧ op ≤ 22 := by
  by_cases hc : 1 ≤ op ∧ op ≤ 22
  · exact hc
  · rw [may_no hc] at h; cases h
/-- the blocks that a run leaves behind -/
theorem drop10 {W0 w : World} {A : Asn} {L M : List Asn} (S : Sat W0 w (A :: (M ++ L))) : Sat W0 w (A :: L) :=
  S.map fun _ hh => star_mono (fun _ h => h) (fun h hm => star_right ((all_append M L h).1 hm)) hh

set_option maxRecDepth 100000 in
set_option maxHeartbeats 3200000 in
theorem run_any {W0 w : World} {L : List Asn} {p : Nat} {m : VM} (S : Sat W0 w (Mc p m :: L)) (hM : m.Ok) (hst : m.st.length ≤ 32) (hbad : m.bad = false) (pc0 : 0 ≤ m.pc) {n : Nat} (pcn : m.pc ≤ n) {a : Option Addr} {c : Nat} {code : List (Int × Int)}
    (hR : ∀ w', Sat W0 w' L → Rd w' a (insv code)) (hn : code.length = n) (hn2 : n ≤ 256) (hval : ∀ (k : Nat) (x : Int × Int), code[k]? = some x → mayP x.1 x.2 n = true) (cp : Int) (fuel : Nat) (hf : fuel ≤ 2000) :
    Calls Tryz.prog 81 #[.pointer (some ⟨p, 0, none⟩), .agg #[.slice a n c, .int .i64 cp, .int .i64 fuel]] w (Ran W0 L p code fuel m) := by
  have S1 := S.alloc [.slice a n c, .int .i64 cp, .int .i64 fuel] 24
  have HN := Lib.hid hn
  have HV := Lib.hid hval
  have HR := Lib.hid hR
  have HBD := Lib.hid hbad
  have cg := S1.cell 0 rfl 2
  simp only [List.getElem?_cons_succ, List.getElem?_cons_zero] at cg
  clear hn hval hR hbad
  go_enter Tryz.func81, Tryz.ntmps81
  go_wp2_with (first
    | (refine wpList_store_sat (news := dv q1 q2 q3 q4 q5 q6 q7 q8) (n := 23) rfl 159 _ _ rfl S3 rfl rfl rfl (by decide) Tryz.sizeD (dv_one q1 q2 q3 q4 q5 q6 q7 q8) ?_; intro w3 S4; have cg3 := S4.cell 9 rfl 2; simp only [List.getElem?_cons_succ, List.getElem?_cons_zero] at cg3)
    | (go_at_call 88; refine (doers_any S1).mono ?_; rintro e w1 ⟨q1, q2, q3, q4, q5, q6, q7, q8, rfl, S2⟩; have S3 : Sat W0 (w1.alloc (.cells #[.nilFunc, .nilFunc, .nilFunc, .nilFunc, .nilFunc, .nilFunc, .nilFunc, .nilFunc, .nilFunc, .nilFunc, .nilFunc, .nilFunc, .nilFunc, .nilFunc, .nilFunc, .nilFunc, .nilFunc, .nilFunc, .nilFunc, .nilFunc, .nilFunc, .nilFunc, .nilFunc] 159)) (blk w1.heap.size dz 159 :: _) := S2.alloc dz _))
  have S5 : Sat W0 w3 (Mc p m :: capt q8 (.func 104) :: capt q7 (.func 103) :: capt q6 (.func 102) :: capt q5 (.func 101) :: capt q4 (.func 100) :: capt q3 (.func 99) :: capt q2 (.func 98) :: capt q1 (.func 97) :: blk w1.heap.size (dv q1 q2 q3 q4 q5 q6 q7 q8) 159 :: blk w.heap.size [.slice a n c, .int .i64 cp, .int .i64 fuel] 24 :: L) := S4.sel [10, 1, 1, 1, 1, 1, 1, 1, 1]
  generalize w1.heap.size = pd at S5 ⊢
  generalize w.heap.size = pg at S5 ⊢
  clear S1 S2 S3 S4 S cg cg3
  go_loopw [6] (fun u wr => ∃ (f : Nat) (m' : VM), u = .int .i64 f ∧ f ≤ fuel ∧ Hid (runP code fuel m = runP code f m') ∧ m'.Ok ∧ Hid (m'.bad = false) ∧ 0 ≤ m'.pc ∧ m'.pc ≤ n ∧ m'.st.length ≤ 32 ∧ Sat W0 wr (Mc p m' :: capt q8 (.func 104) :: capt q7 (.func 103) :: capt q6 (.func 102) :: capt q5 (.func 101) :: capt q4 (.func 100) :: capt q3 (.func 99) :: capt q2 (.func 98) :: capt q1 (.func 97) :: blk pd (dv q1 q2 q3 q4 q5 q6 q7 q8) 159 :: blk pg [.slice a n c, .int .i64 cp, .int .i64 fuel] 24 :: L)) (fun u _ => (intOf u).toNat)
  case atStart => exact ⟨fuel, m, rfl, Nat.le_refl _, rfl, hM, HBD, pc0, pcn, hst, S5⟩
  case round =>
    clear S5 pc0 pcn hst
    obtain ⟨f, m', rfl, hff, HE, hM', HB', hp0, hpn, hst, S6⟩ := hrel
    obtain ⟨k, hk⟩ : ∃ k : Nat, m'.pc = (k : Int) := ⟨m'.pc.toNat, by omega⟩
    obtain ⟨ao, cap', S7⟩ := Mc_open.1 S6
    have hA := mc_at hM'.s.len S7
    have c23 := hA.pc
    have c24 := hA.ended
    have g0 := S6.cell 10 rfl 0
    simp only [List.getElem?_cons_zero] at g0
    rw [hk] at c23 hp0 hpn
    have hkn : (k : Int) ≤ (n : Int) := hpn
    have hk0 : (0 : Int) ≤ (k : Int) := hp0
    by_cases hrun : m'.pc < code.length ∧ m'.ended = false
    · have hlt : (k : Int) < (n : Int) := by have := hrun.1; rw [HN.out] at this; omega
      have hlt' : k < n := by omega
      rw [hrun.2] at c24
      have HRUN := Lib.hid hrun
      have HK := Lib.hid hk
      clear hrun hk hA
      go_wp2_with fail
      go_quiet (fail)
      have S20 := S6.drewN nq
      generalize wr.drewN nq = w5 at S20 ⊢
      clear S6 S7 c23 c24 g0
      cases f with
      | zero =>
        have hz : (((0 : Nat) : Int) == 0) = true := rfl
        go_wp2_with fail
        go_ret
        have he : runP code fuel m = (false, m') := by rw [HE.out, runP_dry HRUN.out]
        refine ⟨?_, ?_⟩
        · rw [he]
          show _ = Ending.returned (.int .i64 (if false = true then 0 else if m'.bad = true then 11 else 10))
          rw [HB'.out]; rfl
        · rw [he]
          exact drop10 (M := [capt q8 (.func 104), capt q7 (.func 103), capt q6 (.func 102), capt q5 (.func 101), capt q4 (.func 100), capt q3 (.func 99), capt q2 (.func 98), capt q1 (.func 97), blk pd (dv q1 q2 q3 q4 q5 q6 q7 q8) 159, blk pg [.slice a n c, .int .i64 cp, .int .i64 fuel] 24]) S20
      | succ f =>
        have hz : (((f + 1 : Nat) : Int) == 0) = false := by rw [beq_eq_false_iff_ne]; omega
        obtain ⟨x, hx⟩ : ∃ x, code[k]? = some x := ⟨code[k]'(by rw [HN.out]; exact hlt'), List.getElem?_eq_getElem _⟩
        obtain ⟨bb, off, rfl, i0, i1⟩ := insv_cells (HR.out _ (Sat.tail (Sat.tail (Sat.tail (Sat.tail (Sat.tail (Sat.tail (Sat.tail (Sat.tail (Sat.tail (Sat.tail (Sat.tail S20)))))))))))) hx
        have hop := may_op (HV.out k x hx)
        obtain ⟨j, hj⟩ : ∃ j : Nat, x.1 = (j : Int) := ⟨x.1.toNat, by omega⟩
        obtain ⟨op, arg⟩ := x
        simp only at hj i0 i1 hop
        subst hj
        obtain ⟨ao2, cap2, S21⟩ := Mc_open.1 S20
        have hA := mc_at hM'.s.len S21
        have c23 := hA.pc
        rw [HK.out] at c23
        have f23 := hA.free 23
        have g0 := S20.cell 10 rfl 0
        simp only [List.getElem?_cons_zero] at g0
        have HX := Lib.hid hx
        clear hx hA
        go_wp2_with fail
        have n1 := World.new_ne w5 _ c23
        have n2 := World.new_ne w5 _ g0
        have n3 := World.new_ne w5 _ i0
        have n4 := World.new_ne w5 _ i1
        go_region_held3 (fun w' => w'.cell? ⟨p, 23, none⟩ = some (.int .i64 (k : Int)) ∧ w'.cell? ⟨pg, 0, none⟩ = some (.slice (some ⟨bb, off, none⟩) n c) ∧ w'.cell? ⟨bb, off + k * 2, none⟩ = some (.int .i64 (j : Int)) ∧ w'.cell? ⟨bb, off + k * 2 + 1, none⟩ = some (.int .i64 arg)) (go_keep) (fail)
        have S22 := (S20.alloc [.int .i64 (j : Int), .int .i64 arg] 95).drew
        clear S20 S21 c23 f23 g0 i0 i1 n1 n2 n3 n4
        generalize (w5.alloc (.cells #[.int .i64 (j : Int), .int .i64 arg] 95)).drew = w6 at S22 ⊢
        generalize w5.heap.size = y at S22 ⊢
        obtain ⟨ao3, cap3, S23⟩ := Mc_open.1 (S22.sel [1])
        have hA := mc_at hM'.s.len S23
        have c23 := hA.pc
        rw [HK.out] at c23
        have f23 := hA.free 23
        have S24 := Mc_open.2 ⟨ao3, cap3, mc_pc hM'.s.len S23 ((k : Int) + 1)⟩
        clear hA
        go_wp2_with fail
        have S25 : Sat W0 (w6.setCell ⟨p, 23, none⟩ (.int .i64 ((k : Int) + 1))) (Mc p { m' with pc := (k : Int) + 1 } :: capt q8 (.func 104) :: capt q7 (.func 103) :: capt q6 (.func 102) :: capt q5 (.func 101) :: capt q4 (.func 100) :: capt q3 (.func 99) :: capt q2 (.func 98) :: capt q1 (.func 97) :: blk y [.int .i64 (j : Int), .int .i64 arg] 95 :: blk pd (dv q1 q2 q3 q4 q5 q6 q7 q8) 159 :: blk pg [.slice (some ⟨bb, off, none⟩) n c, .int .i64 cp, .int .i64 fuel] 24 :: L) := S24.sel [0, 1, 1, 1, 1, 1, 1, 1, 1]
        clear S22 S23 S24 c23 f23
        generalize w6.setCell ⟨p, 23, none⟩ (.int .i64 ((k : Int) + 1)) = w7 at S25 ⊢
        have hM1 : ({ m' with pc := (k : Int) + 1 } : VM).Ok := ⟨hM'.s, hM'.i0, hM'.i1, hM'.st, hM'.frame⟩
        have hst1 : ({ m' with pc := (k : Int) + 1 } : VM).st.length ≤ 800 := by show m'.st.length ≤ 800; omega
        have hKept : Kept n { m' with pc := (k : Int) + 1 } (doP j arg { m' with pc := (k : Int) + 1 }) := doP_kept (HV.out k _ HX.out) hM1 (by show (0 : Int) ≤ (k : Int) + 1; omega) (by show (k : Int) + 1 ≤ (n : Int); omega) hst
        have hM2 := hKept.ok
        have HX2 : Hid (code[m'.pc.toNat]? = some ((j : Int), arg)) := by show _ = _; rw [HK.out]; exact HX.out
        obtain ⟨K, cap, hdv, hcap, hent, hD⟩ := doer_any (W0 := W0) (L := blk y [.int .i64 (j : Int), .int .i64 arg] 95 :: blk pd (dv q1 q2 q3 q4 q5 q6 q7 q8) 159 :: blk pg [.slice (some ⟨bb, off, none⟩) n c, .int .i64 cp, .int .i64 fuel] 24 :: L) p q1 q2 q3 q4 q5 q6 q7 q8 (j := j) (by omega) (by omega) (HV.out k _ HX.out)
        have hj0 : (0 : Int) ≤ (j : Int) := Int.natCast_nonneg _
        have hj1 : (j : Int) < 23 := by omega
        have HDV := Lib.hid hdv
        unfold Ent at hent
        rcases hcap with rfl | ⟨q, rfl⟩
        · have HD : Hid (∀ w' m, VM.Ok m → Sat W0 w' (Mc p m :: capt q8 (.func 104) :: capt q7 (.func 103) :: capt q6 (.func 102) :: capt q5 (.func 101) :: capt q4 (.func 100) :: capt q3 (.func 99) :: capt q2 (.func 98) :: capt q1 (.func 97) :: blk y [.int .i64 (j : Int), .int .i64 arg] 95 :: blk pd (dv q1 q2 q3 q4 q5 q6 q7 q8) 159 :: blk pg [.slice (some ⟨bb, off, none⟩) n c, .int .i64 cp, .int .i64 fuel] 24 :: L) → m.st.length ≤ 800 → Calls Tryz.prog K #[.pointer (some ⟨p, 0, none⟩), .int .i64 arg] w' (Done W0 p (doP j arg m) (capt q8 (.func 104) :: capt q7 (.func 103) :: capt q6 (.func 102) :: capt q5 (.func 101) :: capt q4 (.func 100) :: capt q3 (.func 99) :: capt q2 (.func 98) :: capt q1 (.func 97) :: blk y [.int .i64 (j : Int), .int .i64 arg] 95 :: blk pd (dv q1 q2 q3 q4 q5 q6 q7 q8) 159 :: blk pg [.slice (some ⟨bb, off, none⟩) n c, .int .i64 cp, .int .i64 fuel] 24 :: L))) := hD
          clear hD
          have hc0 := (S25.drew.cell 9 rfl 0)
          have hc1 := (S25.drew.cell 9 rfl 1)
          simp only [List.getElem?_cons_zero, List.getElem?_cons_succ] at hc0 hc1
          have hc2 := (S25.drew.cell 10 rfl j).trans hdv
          go_region_held3 (fun w' => w'.cell? ⟨y, 0, none⟩ = some (.int .i64 (j : Int)) ∧ w'.cell? ⟨y, 1, none⟩ = some (.int .i64 arg) ∧ w'.cell? ⟨pd, j, none⟩ = some (.func (.func K) #[] #[]))
            (first
              | go_keep
              | exact ⟨S27.cell 9 rfl 0, S27.cell 9 rfl 1, (S27.cell 10 rfl j).trans hdv⟩)
            ((refine (HD.out _ _ hM1 S25.drew hst1).mono ?_; unfold Done; rintro e w8 ⟨rfl, S27⟩))
          clear S25 hc0 hc1 hc2
          obtain ⟨ao4, cap4, S28⟩ := Mc_open.1 S27
          have hA := mc_at hM2.s.len S28
          have c25 := hA.bad
          clear hA S28
          cases hbd : (doP j arg { m' with pc := (k : Int) + 1 }).bad with
          | true =>
            rw [hbd] at c25
            have HBD2 := Lib.hid hbd
            clear hbd
            go_wp2_with fail
            go_ret
            have he : runP code fuel m = (false, doP j arg { m' with pc := (k : Int) + 1 }) := by rw [HE.out, runP_bad HRUN.out (HX2.out) (by rw [HK.out]; exact HBD2.out), HK.out]
            refine ⟨?_, ?_⟩
            · rw [he]
              show _ = Ending.returned (.int .i64 (if false = true then 0 else if (doP j arg { m' with pc := (k : Int) + 1 }).bad = true then 11 else 10))
              rw [HBD2.out]; rfl
            · rw [he]
              exact drop10 (M := [capt q8 (.func 104), capt q7 (.func 103), capt q6 (.func 102), capt q5 (.func 101), capt q4 (.func 100), capt q3 (.func 99), capt q2 (.func 98), capt q1 (.func 97), blk y [.int .i64 (j : Int), .int .i64 arg] 95, blk pd (dv q1 q2 q3 q4 q5 q6 q7 q8) 159, blk pg [.slice (some ⟨bb, off, none⟩) n c, .int .i64 cp, .int .i64 fuel] 24]) S27
          | false =>
            rw [hbd] at c25
            have HBD2 := Lib.hid hbd
            have hst2 := hKept.st hbd
            clear hbd
            have HE2 : Hid (runP code fuel m = runP code f (doP j arg { m' with pc := (k : Int) + 1 })) := by show _ = _; rw [HE.out, runP_more HRUN.out (HX2.out) (by rw [HK.out]; exact HBD2.out), HK.out]
            go_wp2_with fail
            exact ⟨⟨f, doP j arg { m' with pc := (k : Int) + 1 }, by go_num, by omega, HE2, hM2, HBD2, hKept.pc0, hKept.pcn, hst2, drop_y S27⟩, by simp [intOf]⟩
        · have HD : Hid (∀ w' m, VM.Ok m → Sat W0 w' (Mc p m :: capt q8 (.func 104) :: capt q7 (.func 103) :: capt q6 (.func 102) :: capt q5 (.func 101) :: capt q4 (.func 100) :: capt q3 (.func 99) :: capt q2 (.func 98) :: capt q1 (.func 97) :: blk y [.int .i64 (j : Int), .int .i64 arg] 95 :: blk pd (dv q1 q2 q3 q4 q5 q6 q7 q8) 159 :: blk pg [.slice (some ⟨bb, off, none⟩) n c, .int .i64 cp, .int .i64 fuel] 24 :: L) → m.st.length ≤ 800 → Calls Tryz.prog K #[.pointer (some ⟨p, 0, none⟩), .int .i64 arg, .pointer (some ⟨q, 0, none⟩)] w' (Done W0 p (doP j arg m) (capt q8 (.func 104) :: capt q7 (.func 103) :: capt q6 (.func 102) :: capt q5 (.func 101) :: capt q4 (.func 100) :: capt q3 (.func 99) :: capt q2 (.func 98) :: capt q1 (.func 97) :: blk y [.int .i64 (j : Int), .int .i64 arg] 95 :: blk pd (dv q1 q2 q3 q4 q5 q6 q7 q8) 159 :: blk pg [.slice (some ⟨bb, off, none⟩) n c, .int .i64 cp, .int .i64 fuel] 24 :: L))) := hD
          clear hD
          have hc0 := (S25.drew.cell 9 rfl 0)
          have hc1 := (S25.drew.cell 9 rfl 1)
          simp only [List.getElem?_cons_zero, List.getElem?_cons_succ] at hc0 hc1
          have hc2 := (S25.drew.cell 10 rfl j).trans hdv
          go_region_held3 (fun w' => w'.cell? ⟨y, 0, none⟩ = some (.int .i64 (j : Int)) ∧ w'.cell? ⟨y, 1, none⟩ = some (.int .i64 arg) ∧ w'.cell? ⟨pd, j, none⟩ = some (.func (.func K) #[] #[.pointer (some ⟨q, 0, none⟩)]))
            (first
              | go_keep
              | exact ⟨S27.cell 9 rfl 0, S27.cell 9 rfl 1, (S27.cell 10 rfl j).trans hdv⟩)
            ((refine (HD.out _ _ hM1 S25.drew hst1).mono ?_; unfold Done; rintro e w8 ⟨rfl, S27⟩))
          clear S25 hc0 hc1 hc2
          obtain ⟨ao4, cap4, S28⟩ := Mc_open.1 S27
          have hA := mc_at hM2.s.len S28
          have c25 := hA.bad
          clear hA S28
          cases hbd : (doP j arg { m' with pc := (k : Int) + 1 }).bad with
          | true =>
            rw [hbd] at c25
            have HBD2 := Lib.hid hbd
            clear hbd
            go_wp2_with fail
            go_ret
            have he : runP code fuel m = (false, doP j arg { m' with pc := (k : Int) + 1 }) := by rw [HE.out, runP_bad HRUN.out (HX2.out) (by rw [HK.out]; exact HBD2.out), HK.out]
            refine ⟨?_, ?_⟩
            · rw [he]
              show _ = Ending.returned (.int .i64 (if false = true then 0 else if (doP j arg { m' with pc := (k : Int) + 1 }).bad = true then 11 else 10))
              rw [HBD2.out]; rfl
            · rw [he]
              exact drop10 (M := [capt q8 (.func 104), capt q7 (.func 103), capt q6 (.func 102), capt q5 (.func 101), capt q4 (.func 100), capt q3 (.func 99), capt q2 (.func 98), capt q1 (.func 97), blk y [.int .i64 (j : Int), .int .i64 arg] 95, blk pd (dv q1 q2 q3 q4 q5 q6 q7 q8) 159, blk pg [.slice (some ⟨bb, off, none⟩) n c, .int .i64 cp, .int .i64 fuel] 24]) S27
          | false =>
            rw [hbd] at c25
            have HBD2 := Lib.hid hbd
            have hst2 := hKept.st hbd
            clear hbd
            have HE2 : Hid (runP code fuel m = runP code f (doP j arg { m' with pc := (k : Int) + 1 })) := by show _ = _; rw [HE.out, runP_more HRUN.out (HX2.out) (by rw [HK.out]; exact HBD2.out), HK.out]
            go_wp2_with fail
            exact ⟨⟨f, doP j arg { m' with pc := (k : Int) + 1 }, by go_num, by omega, HE2, hM2, HBD2, hKept.pc0, hKept.pcn, hst2, drop_y S27⟩, by simp [intOf]⟩
    · have he : runP code fuel m = (true, m') := by rw [HE.out, runP_stop hrun]
      have HEE := Lib.hid he
      have hcase : ¬ (k : Int) < (n : Int) ∨ m'.ended = true := by
        by_cases h1 : (k : Int) < (n : Int)
        · refine .inr ?_
          cases h2 : m'.ended with
          | true => rfl
          | false => exact absurd ⟨by rw [hk, HN.out]; exact h1, h2⟩ hrun
        · exact .inl h1
      clear hrun hA he hk
      rcases hcase with h1 | h1
      · have h1' : (n : Int) ≤ (k : Int) := by omega
        have hd : decide (k < n) = false := decide_eq_false (by omega)
        go_wp2_with fail
        go_quiet (fail)
        go_wp2_with fail
        go_ret
        refine ⟨?_, ?_⟩
        · rw [HEE.out]; rfl
        · rw [HEE.out]
          exact drop10 (M := [capt q8 (.func 104), capt q7 (.func 103), capt q6 (.func 102), capt q5 (.func 101), capt q4 (.func 100), capt q3 (.func 99), capt q2 (.func 98), capt q1 (.func 97), blk pd (dv q1 q2 q3 q4 q5 q6 q7 q8) 159, blk pg [.slice a n c, .int .i64 cp, .int .i64 fuel] 24]) (S6.drewN nq)
      · rw [h1] at c24
        clear h1
        by_cases h2 : (k : Int) < (n : Int)
        · go_wp2_with fail
          go_quiet (fail)
          go_wp2_with fail
          go_ret
          refine ⟨?_, ?_⟩
          · rw [HEE.out]; rfl
          · rw [HEE.out]
            exact drop10 (M := [capt q8 (.func 104), capt q7 (.func 103), capt q6 (.func 102), capt q5 (.func 101), capt q4 (.func 100), capt q3 (.func 99), capt q2 (.func 98), capt q1 (.func 97), blk pd (dv q1 q2 q3 q4 q5 q6 q7 q8) 159, blk pg [.slice a n c, .int .i64 cp, .int .i64 fuel] 24]) (S6.drewN nq)
        · have h1' : (n : Int) ≤ (k : Int) := by omega
          have hd : decide (k < n) = false := decide_eq_false (by omega)
          go_wp2_with fail
          go_quiet (fail)
          go_wp2_with fail
          go_ret
          refine ⟨?_, ?_⟩
          · rw [HEE.out]; rfl
          · rw [HEE.out]
            exact drop10 (M := [capt q8 (.func 104), capt q7 (.func 103), capt q6 (.func 102), capt q5 (.func 101), capt q4 (.func 100), capt q3 (.func 99), capt q2 (.func 98), capt q1 (.func 97), blk pd (dv q1 q2 q3 q4 q5 q6 q7 q8) 159, blk pg [.slice a n c, .int .i64 cp, .int .i64 fuel] 24]) (S6.drewN nq)
end Go.Proofs.YtjdeeloemhjbhaaGreat
