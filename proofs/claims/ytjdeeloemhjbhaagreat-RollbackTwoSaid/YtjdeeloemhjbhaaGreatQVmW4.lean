/-
  Chapter 10's document: the state behind one more frame; it is the machine's.
-/
import Derived.Test.YtjdeeloemhjbhaaGreatQVmK0
import Derived.Test.YtjdeeloemhjbhaaGreatQVmW2
import Derived.Test.YtjdeeloemhjbhaaGreatQVmW3
import Derived.Test.YtjdeeloemhjbhaaGreatQVmW5

namespace Go.Proofs.YtjdeeloemhjbhaaGreat
open Go.RowKit Go.Sep Go.Vm
set_option linter.unusedSimpArgs false

/-- a struct's or an array's cells, loaded in a region that draws -/
theorem yields_load_part {P : Program} {ops : Array Oper} {S : World → Prop} {o : Oper} {a : Act} (hgd : o.guard = none) (ty : TypeId) (x : Operand) (ho : o.op = .load ty x)
    {g off n : Nat} {cs : List Value} (hx : a.eval x = .pointer (some ⟨g, off, none⟩)) (hc : ∀ w, S w → ∀ j, j < n → w.cell? ⟨g, off + j, none⟩ = cs[j]?) (hn : cs.length = n) {d : TypeDesc}
    (hu : P.underlying ty = some d) (hd : aggKind d = true) (hi : (P.info? ty).map (·.size) = some n) : YieldsIf P ops S o (.agg cs.toArray) a := by
  refine Or.inl ⟨by simp [Region.wanted, hgd], fun w hS => ?_⟩
  unfold execOp
  simp only [ho, hx, Instr.loadAt, Instr.sureAddr, Sem.run_bind, Sem.run_pure, Result.andThen_ok, run_loadVar_part (hc w hS) hn hu hd hi]
theorem scellS {W0 w : World} {L : List Asn} {p : Nat} {s : VS} (h : s.cells.length = 16) (S : Sat W0 w (blk p (svals s) 46 :: L)) :
    (∀ j, j < 16 → w.cell? ⟨p, 1 + j, none⟩ = (s.cells.map (Value.int .i32))[j]?) ∧ w.cell? ⟨p, 17, none⟩ = some (.int .u32 s.seed) := by
  refine ⟨fun j hj => ?_, (st_at h S).seed⟩
  rw [(st_at h S).cells j hj, List.getElem?_map, List.getElem?_eq_getElem (by omega)]
  rfl

theorem wpAnyH_list {P : Program} {md : Region.Mode} {ops : Array Oper} {Q : Exit → Act → World → Prop} {S : World → Prop} {fuel : Nat} {l l' : Array Bool} {a : Act} {w : World} (h : l = l') (H : wpAnyH P md ops Q S fuel l' a w) : wpAnyH P md ops Q S fuel l a w := h ▸ H
theorem ivs_one (l : List Int) : ∀ u ∈ l.map (Value.int .i32), u.oneCell' = true := by
  intro u hu; obtain ⟨x, _, rfl⟩ := List.mem_map.1 hu; rfl
theorem rvals_cells {m : RM} {ao : Option Addr} {cap : Nat} (h : m.s.cells.length = 16) {c : List Int} (_hc : c.length = 16) :
    (rvals m ao cap).take 1 ++ c.map (Value.int .i32) ++ (rvals m ao cap).drop (1 + 16) = rvals { m with s := { m.s with cells := c } } ao cap := by
  obtain ⟨s, i0, i1, st, pc, won, bad⟩ := m
  obtain ⟨f, cs, d, o, w⟩ := s
  obtain ⟨c0, c1, c2, c3, c4, c5, c6, c7, c8, c9, c10, c11, c12, c13, c14, c15, rfl⟩ := list16 h
  rfl

theorem rv_back (m : RM) (h : m.s.cells.length = 16) (ao : Option Addr) (cap : Nat) : ((rvals m ao cap).drop 0).take 20 = svals m.s := by
  unfold rvals svals
  rw [List.drop_zero]
  rw [show (20 : Nat) = 19 + 1 from rfl, List.take_succ_cons, List.take_append, List.length_map, h, List.take_of_length_le (by rw [List.length_map]; omega)]
  rfl

theorem built73 (s : VS) (h : s.cells.length = 16) (i0 i1 : Int) : Tryz.prog.built 140 [(0, .agg (svals s).toArray), (1, .agg #[.int .u16 i0, .int .u16 i1]), (4, .int .i64 (-1))] = some (rvals ⟨s, i0, i1, [], 0, -1, false⟩ none 0).toArray := by
  obtain ⟨f, cells, seed, over, winner⟩ := s
  obtain ⟨c0, c1, c2, c3, c4, c5, c6, c7, c8, c9, c10, c11, c12, c13, c14, c15, rfl⟩ := list16 h
  kernel_rfl

set_option maxRecDepth 100000 in
set_option maxHeartbeats 60000000 in
theorem r10step_any {W0 w : World} {L : List Asn} (S : Sat W0 w L) {a : Option Addr} {n c : Nat} {code : List (Int × Int)} (hR : ∀ w', Sat W0 w' L → Rd w' a (insv code)) (hn : code.length = n) (hnm : n ≤ maxLen) (cap fuel : Int) {s : VS} (hs : s.Ok)
    (i0 i1 : Int) (hi0 : 0 ≤ i0 ∧ i0 < 65536) (hi1 : 0 ≤ i1 ∧ i1 < 65536) :
    Calls Tryz.prog 54 #[.agg #[.slice a n c, .int .i64 cap, .int .i64 fuel], .agg (svals s).toArray, .agg #[.int .u16 i0, .int .u16 i1]] w (Stepped W0 L (stepP code cap fuel s i0 i1)) := by
  have S1 := (((S.alloc [.slice a n c, .int .i64 cap, .int .i64 fuel] 24).alloc (svals s) 46).alloc [.int .u16 i0, .int .u16 i1] 43).alloc [.int .i64 0, .int .i32 0, .int .i32 0, .int .i32 0, .int .i32 0, .int .i32 0, .int .i32 0, .int .i32 0, .int .i32 0, .int .i32 0, .int .i32 0, .int .i32 0, .int .i32 0, .int .i32 0, .int .i32 0, .int .i32 0, .int .i32 0, .int .u32 0, .bool false, .int .i64 0] 46
  simp only [World.size_alloc] at S1
  have hR1 : ∀ w', Sat W0 w' (blk (w.heap.size + 1 + 1 + 1) [.int .i64 0, .int .i32 0, .int .i32 0, .int .i32 0, .int .i32 0, .int .i32 0, .int .i32 0, .int .i32 0, .int .i32 0, .int .i32 0, .int .i32 0, .int .i32 0, .int .i32 0, .int .i32 0, .int .i32 0, .int .i32 0, .int .i32 0, .int .u32 0, .bool false, .int .i64 0] 46 :: blk (w.heap.size + 1 + 1) [.int .u16 i0, .int .u16 i1] 43 :: blk (w.heap.size + 1) (svals s) 46 :: blk w.heap.size [.slice a n c, .int .i64 cap, .int .i64 fuel] 24 :: L) → Rd w' a (insv code) :=
    fun w' h => hR w' (Sat.tail (Sat.tail (Sat.tail (Sat.tail h))))
  have HN := Lib.hid hn
  have HRR := Lib.hid hR
  clear hn hR
  cases hchk : (checkP code cap fuel != 0) with
  | true =>
    have hf : stepP code cap fuel s i0 i1 = (VS.zero, checkP code cap fuel) := by unfold stepP; rw [if_pos (by simpa using hchk)]
    have HF := Lib.hid hf
    obtain ⟨ck, hck⟩ : ∃ ck, checkP code cap fuel = ck := ⟨_, rfl⟩
    rw [hck] at hchk HF
    have HC := Lib.hid hck
    clear hck hf
    go_enter Tryz.func54, Tryz.ntmps54
    go_wp2_with (first
      | (refine wpList_store_sat (n := 20) rfl 46 _ _ rfl S2 rfl rfl rfl (by decide) Tryz.sizeS zero_one ?_; intro w4 S4)
      | (go_at_call 8; refine (r10check_any S1 hR1 HN.out hnm cap fuel).mono ?_; rintro e w2 ⟨rfl, S2⟩; rw [HC.out]; have d1 := S2.cell 3 rfl 1; have d2 := (st_at hs.len (S2.sel [2])).seed; have d3 := (st_at hs.len (S2.sel [2])).over; have d4 := (st_at hs.len (S2.sel [2])).frame; simp only [List.getElem?_cons_succ, List.getElem?_cons_zero] at d1))
    refine bodyPost_ret (results_cell_tmp_sat rfl _ S4 rfl Tryz.underlying46 rfl Tryz.sizeS rfl) rfl ⟨?_, Sat.tail (Sat.tail (Sat.tail (Sat.tail S4)))⟩
    rw [HF.out]; rfl
  | false =>
    have hck : checkP code cap fuel = 0 := by simpa using hchk
    obtain ⟨hl, hval, hcap1, hcap2, hfu1, hfu2⟩ := check_ok hck
    have HC := Lib.hid hck
    clear hchk
    have hnl : stepP code cap fuel s i0 i1 = if isP s = false ∨ s.seed = 0 then (VS.zero, 1) else if s.over = true ∨ cap ≤ s.frame then (VS.zero, 12)
        else (endP cap (if (runP code fuel.toNat ⟨s, i0, i1, [], 0, false, false⟩).1 then (runP code fuel.toNat ⟨s, i0, i1, [], 0, false, false⟩).2.s else s), 0) := by
      unfold stepP; rw [if_neg (by rw [hck]; simp)]
    cases hi : isP s with
    | false =>
      have HF : Hid (stepP code cap fuel s i0 i1 = (VS.zero, 1)) := by show _ = _; rw [hnl, if_pos (.inl hi)]
      have HI := Lib.hid hi
      clear hck hnl hval hi
      go_enter Tryz.func54, Tryz.ntmps54
      go_wp2_with (first
        | (refine wpList_store_sat (n := 20) rfl 46 _ _ rfl S3 rfl rfl rfl (by decide) Tryz.sizeS zero_one ?_; intro w4 S4)
        | (go_at_call 70; refine (r10is_any S2 hs.len).mono ?_; rintro e w3 ⟨rfl, S3⟩; rw [HI.out]; have d1 := S3.cell 3 rfl 1; have d2 := (st_at hs.len (S3.sel [2])).seed; have d3 := (st_at hs.len (S3.sel [2])).over; have d4 := (st_at hs.len (S3.sel [2])).frame; simp only [List.getElem?_cons_succ, List.getElem?_cons_zero] at d1)
        | (refine wpList_load_part rfl 46 _ rfl (n := 20) rfl ((S2.sel [2]).part 0 20) (by rw [List.length_take, List.length_drop, svals_length hs.len]; rfl) Tryz.underlying46 rfl Tryz.sizeS ?_; rw [List.drop_zero, List.take_of_length_le (by rw [svals_length hs.len]; omega)])
        | (go_at_call 8; refine (r10check_any S1 hR1 HN.out hnm cap fuel).mono ?_; rintro e w2 ⟨rfl, S2⟩; rw [HC.out]; have d1 := S2.cell 3 rfl 1; have d2 := (st_at hs.len (S2.sel [2])).seed; have d3 := (st_at hs.len (S2.sel [2])).over; have d4 := (st_at hs.len (S2.sel [2])).frame; simp only [List.getElem?_cons_succ, List.getElem?_cons_zero] at d1))
      refine bodyPost_ret (results_cell_tmp_sat rfl _ S4 rfl Tryz.underlying46 rfl Tryz.sizeS rfl) rfl ⟨?_, Sat.tail (Sat.tail (Sat.tail (Sat.tail S4)))⟩
      rw [HF.out]; rfl
    | true =>
      have HI := Lib.hid hi
      by_cases hsd : s.seed = 0
      · have HF : Hid (stepP code cap fuel s i0 i1 = (VS.zero, 1)) := by show _ = _; rw [hnl, if_pos (.inr hsd)]
        have hsd' : (s.seed == 0) = true := by simpa using hsd
        clear hck hnl hval hi hsd
        go_enter Tryz.func54, Tryz.ntmps54
        go_wp2_with (first
          | (refine wpList_store_sat (n := 20) rfl 46 _ _ rfl S3 rfl rfl rfl (by decide) Tryz.sizeS zero_one ?_; intro w4 S4)
          | (go_at_call 70; refine (r10is_any S2 hs.len).mono ?_; rintro e w3 ⟨rfl, S3⟩; rw [HI.out]; have d1 := S3.cell 3 rfl 1; have d2 := (st_at hs.len (S3.sel [2])).seed; have d3 := (st_at hs.len (S3.sel [2])).over; have d4 := (st_at hs.len (S3.sel [2])).frame; simp only [List.getElem?_cons_succ, List.getElem?_cons_zero] at d1)
          | (refine wpList_load_part rfl 46 _ rfl (n := 20) rfl ((S2.sel [2]).part 0 20) (by rw [List.length_take, List.length_drop, svals_length hs.len]; rfl) Tryz.underlying46 rfl Tryz.sizeS ?_; rw [List.drop_zero, List.take_of_length_le (by rw [svals_length hs.len]; omega)])
          | (go_at_call 8; refine (r10check_any S1 hR1 HN.out hnm cap fuel).mono ?_; rintro e w2 ⟨rfl, S2⟩; rw [HC.out]; have d1 := S2.cell 3 rfl 1; have d2 := (st_at hs.len (S2.sel [2])).seed; have d3 := (st_at hs.len (S2.sel [2])).over; have d4 := (st_at hs.len (S2.sel [2])).frame; simp only [List.getElem?_cons_succ, List.getElem?_cons_zero] at d1))
        refine bodyPost_ret (results_cell_tmp_sat rfl _ S4 rfl Tryz.underlying46 rfl Tryz.sizeS rfl) rfl ⟨?_, Sat.tail (Sat.tail (Sat.tail (Sat.tail S4)))⟩
        rw [HF.out]; rfl
      · have hsd' : (s.seed == 0) = false := by simpa using hsd
        rw [if_neg (by rw [hi]; simpa using hsd)] at hnl
        cases hov : s.over with
        | true =>
          have HF : Hid (stepP code cap fuel s i0 i1 = (VS.zero, 12)) := by show _ = _; rw [hnl, if_pos (.inl hov)]
          have HOV := Lib.hid hov
          clear hck hnl hval hi hsd hov
          go_enter Tryz.func54, Tryz.ntmps54
          go_wp2_with (first
            | (refine wpList_store_sat (n := 20) rfl 46 _ _ rfl S3 rfl rfl rfl (by decide) Tryz.sizeS zero_one ?_; intro w4 S4)
            | (go_at_call 70; refine (r10is_any S2 hs.len).mono ?_; rintro e w3 ⟨rfl, S3⟩; rw [HI.out];  have d1 := S3.cell 3 rfl 1; have d2 := (st_at hs.len (S3.sel [2])).seed; have d3 := (st_at hs.len (S3.sel [2])).over; rw [HOV.out] at d3; have d4 := (st_at hs.len (S3.sel [2])).frame; simp only [List.getElem?_cons_succ, List.getElem?_cons_zero] at d1)
            | (refine wpList_load_part rfl 46 _ rfl (n := 20) rfl ((S2.sel [2]).part 0 20) (by rw [List.length_take, List.length_drop, svals_length hs.len]; rfl) Tryz.underlying46 rfl Tryz.sizeS ?_; rw [List.drop_zero, List.take_of_length_le (by rw [svals_length hs.len]; omega)])
            | (go_at_call 8; refine (r10check_any S1 hR1 HN.out hnm cap fuel).mono ?_; rintro e w2 ⟨rfl, S2⟩; rw [HC.out]; have d1 := S2.cell 3 rfl 1; have d2 := (st_at hs.len (S2.sel [2])).seed; have d3 := (st_at hs.len (S2.sel [2])).over; have d4 := (st_at hs.len (S2.sel [2])).frame; simp only [List.getElem?_cons_succ, List.getElem?_cons_zero] at d1))
          refine bodyPost_ret (results_cell_tmp_sat rfl _ S4 rfl Tryz.underlying46 rfl Tryz.sizeS rfl) rfl ⟨?_, Sat.tail (Sat.tail (Sat.tail (Sat.tail S4)))⟩
          rw [HF.out]; rfl
        | false =>
          have HOV := Lib.hid hov
          by_cases hcf : cap ≤ s.frame
          · have HF : Hid (stepP code cap fuel s i0 i1 = (VS.zero, 12)) := by show _ = _; rw [hnl, if_pos (.inr hcf)]
            clear hck hnl hval hi hsd hov
            go_enter Tryz.func54, Tryz.ntmps54
            go_wp2_with (first
              | (refine wpList_store_sat (n := 20) rfl 46 _ _ rfl S3 rfl rfl rfl (by decide) Tryz.sizeS zero_one ?_; intro w4 S4)
              | (go_at_call 70; refine (r10is_any S2 hs.len).mono ?_; rintro e w3 ⟨rfl, S3⟩; rw [HI.out]; have d1 := S3.cell 3 rfl 1; have d2 := (st_at hs.len (S3.sel [2])).seed; have d3 := (st_at hs.len (S3.sel [2])).over; rw [HOV.out] at d3; have d4 := (st_at hs.len (S3.sel [2])).frame; simp only [List.getElem?_cons_succ, List.getElem?_cons_zero] at d1)
              | (refine wpList_load_part rfl 46 _ rfl (n := 20) rfl ((S2.sel [2]).part 0 20) (by rw [List.length_take, List.length_drop, svals_length hs.len]; rfl) Tryz.underlying46 rfl Tryz.sizeS ?_; rw [List.drop_zero, List.take_of_length_le (by rw [svals_length hs.len]; omega)])
              | (go_at_call 8; refine (r10check_any S1 hR1 HN.out hnm cap fuel).mono ?_; rintro e w2 ⟨rfl, S2⟩; rw [HC.out]; have d1 := S2.cell 3 rfl 1; have d2 := (st_at hs.len (S2.sel [2])).seed; have d3 := (st_at hs.len (S2.sel [2])).over; have d4 := (st_at hs.len (S2.sel [2])).frame; simp only [List.getElem?_cons_succ, List.getElem?_cons_zero] at d1))
            refine bodyPost_ret (results_cell_tmp_sat rfl _ S4 rfl Tryz.underlying46 rfl Tryz.sizeS rfl) rfl ⟨?_, Sat.tail (Sat.tail (Sat.tail (Sat.tail S4)))⟩
            rw [HF.out]; rfl
          · rw [if_neg (by rw [hov]; simpa using hcf)] at hnl
            obtain ⟨fu, rfl⟩ : ∃ fu : Nat, fuel = (fu : Int) := ⟨fuel.toNat, by omega⟩
            rw [Int.toNat_natCast] at hnl
            obtain ⟨b, m', hr⟩ : ∃ b m', runP code fu ⟨s, i0, i1, [], 0, false, false⟩ = (b, m') := ⟨_, _, rfl⟩
            have hfr : 0 ≤ s.frame ∧ s.frame ≤ 600 := by
              have h1 := hi
              unfold isP at h1
              simp only [Bool.and_eq_true, decide_eq_true_eq] at h1
              omega
            have hwin : s.winner = 0 := by
              have h1 := hi
              unfold isP at h1
              rw [hov] at h1
              simp only [Bool.and_eq_true, decide_eq_true_eq, Bool.false_or] at h1
              exact h1.2.2.2.2
            have hM0 : (⟨s, i0, i1, [], 0, false, false⟩ : VM).Ok := ⟨hs, hi0, hi1, fun c hc => by simp at hc, hfr⟩
            have hM' : m'.Ok := by
              have h1 := runP_ok (code := code) hval fu ⟨s, i0, i1, [], 0, false, false⟩ hM0 (Int.le_refl _) (by show (0 : Int) ≤ code.length; omega) (Nat.zero_le _)
              rw [hr] at h1; exact h1
            rw [hr] at hnl
            have HF := Lib.hid hnl
            have HRN := Lib.hid hr
            have HV : Hid (∀ (k : Nat) (x : Int × Int), code[k]? = some x → mayP x.1 x.2 n = true) := by intro k x hx; have := hval k x hx; rw [HN.out] at this; exact this
            have hb70 := Lib.hid (built73 s hs.len i0 i1)
            have hlt : s.frame < cap := by omega
            have hd : decide (cap ≤ s.frame) = false := decide_eq_false hcf
            have hn256 : n ≤ 256 := by rw [← HN.out]; exact hl
            clear hck hnl hval hi hsd hov hr hl
            go_enter Tryz.func54, Tryz.ntmps54
            go_upto_block 0 with (first
              | (refine wpList_build_to (cells := (rvals ⟨s, i0, i1, [], 0, -1, false⟩ none 0).toArray) rfl 140 _ rfl (Eq.trans (congrArg (Tryz.prog.built 140) (show _ = [(0, Value.agg (svals s).toArray), (1, Value.agg #[.int .u16 i0, .int .u16 i1]), (4, Value.int .i64 (-1))] by kernel_rfl)) hb70.out) ?_; have S4 := S3.alloc (rvals ⟨s, i0, i1, [], 0, -1, false⟩ none 0) 140; have e0 := S4.cell 4 rfl 0; have e1 := S4.cell 4 rfl 1; have e2 := S4.cell 4 rfl 2; simp only [List.getElem?_cons_succ, List.getElem?_cons_zero] at e0 e1 e2; have S5 := Rc_open.2 ⟨none, 0, Sat.swap (Sat.own_none.2 ⟨rfl, rfl, rfl, S4⟩)⟩)
              | (refine wpList_load_part rfl 46 _ rfl (n := 20) rfl ((S3.sel [2]).part 0 20) (by rw [List.length_take, List.length_drop, svals_length hs.len]; rfl) Tryz.underlying46 rfl Tryz.sizeS ?_; rw [List.drop_zero, List.take_of_length_le (by rw [svals_length hs.len]; omega)])
              | (go_at_call 70; refine (r10is_any S2 hs.len).mono ?_; rintro e w3 ⟨rfl, S3⟩; rw [HI.out]; have d1 := S3.cell 3 rfl 1; have d2 := (st_at hs.len (S3.sel [2])).seed; have d3 := (st_at hs.len (S3.sel [2])).over; rw [HOV.out] at d3; have d4 := (st_at hs.len (S3.sel [2])).frame; have d5 := S3.cell 1 rfl 0; have d6 := S3.cell 1 rfl 1; simp only [List.getElem?_cons_succ, List.getElem?_cons_zero] at d5 d6; simp only [List.getElem?_cons_succ, List.getElem?_cons_zero] at d1)
              | (refine wpList_load_part rfl 46 _ rfl (n := 20) rfl ((S2.sel [2]).part 0 20) (by rw [List.length_take, List.length_drop, svals_length hs.len]; rfl) Tryz.underlying46 rfl Tryz.sizeS ?_; rw [List.drop_zero, List.take_of_length_le (by rw [svals_length hs.len]; omega)])
              | (go_at_call 8; refine (r10check_any S1 hR1 HN.out hnm cap (fu : Int)).mono ?_; rintro e w2 ⟨rfl, S2⟩; rw [HC.out]; have d1 := S2.cell 3 rfl 1; have d2 := (st_at hs.len (S2.sel [2])).seed; have d3 := (st_at hs.len (S2.sel [2])).over; have d4 := (st_at hs.len (S2.sel [2])).frame; simp only [List.getElem?_cons_succ, List.getElem?_cons_zero] at d1))
            clear S1 hR1 hb70 hcf hd
            have hon : On n ⟨s, i0, i1, [], 0, false, false⟩ := ⟨hM0, rfl, rfl, HOV.out, hwin, Nat.zero_le _, by show (0 : Int) ≤ 0 ∧ (0 : Int) ≤ n; omega⟩
            generalize w3.heap.size = pm at S5 ⊢
            generalize w.heap.size = pg at S5 ⊢
            go_cut [10] (fun _ wx => ∃ fm, Final s (b, m') fm ∧ Sat W0 wx (Rc pm fm :: blk (pg + 1 + 1 + 1) [.int .i64 0, .int .i32 0, .int .i32 0, .int .i32 0, .int .i32 0, .int .i32 0, .int .i32 0, .int .i32 0, .int .i32 0, .int .i32 0, .int .i32 0, .int .i32 0, .int .i32 0, .int .i32 0, .int .i32 0, .int .i32 0, .int .i32 0, .int .u32 0, .bool false, .int .i64 0] 46 :: blk (pg + 1 + 1) [.int .u16 i0, .int .u16 i1] 43 :: blk (pg + 1) (svals s) 46 :: blk pg [.slice a n c, .int .i64 cap, .int .i64 fu] 24 :: L))
            case first =>
              go_wp2_with fail
              go_loopw [10] (fun u wr => ∃ (f : Nat) (m2 : VM), u = .int .i64 f ∧ f ≤ fu ∧ Hid (runP code fu ⟨s, i0, i1, [], 0, false, false⟩ = runP code f m2) ∧ On n m2 ∧ m2.s.frame = s.frame ∧ Sat W0 wr (Rc pm (rm m2) :: blk (pg + 1 + 1 + 1) [.int .i64 0, .int .i32 0, .int .i32 0, .int .i32 0, .int .i32 0, .int .i32 0, .int .i32 0, .int .i32 0, .int .i32 0, .int .i32 0, .int .i32 0, .int .i32 0, .int .i32 0, .int .i32 0, .int .i32 0, .int .i32 0, .int .i32 0, .int .u32 0, .bool false, .int .i64 0] 46 :: blk (pg + 1 + 1) [.int .u16 i0, .int .u16 i1] 43 :: blk (pg + 1) (svals s) 46 :: blk pg [.slice a n c, .int .i64 cap, .int .i64 fu] 24 :: L)) (fun u _ => (intOf u).toNat)
              case atStart => exact ⟨fu, _, rfl, Nat.le_refl _, rfl, hon, rfl, S5⟩
              case round =>
                clear S5 hon
                obtain ⟨f, m2, rfl, hff, HE, hon, hfr2, S6⟩ := hrel
                obtain ⟨k, hk⟩ : ∃ k : Nat, m2.pc = (k : Int) := ⟨m2.pc.toNat, by have := hon.pc; omega⟩
                obtain ⟨ao, cap', S7⟩ := Rc_open.1 S6
                have c23 := (rc_at (m := rm m2) hon.ok.s.len S7).pc
                rw [show (rm m2).pc = (k : Int) from hk] at c23
                have g0 := S6.cell 4 rfl 0
                simp only [List.getElem?_cons_zero] at g0
                have hk0 : (0 : Int) ≤ (k : Int) := Int.natCast_nonneg _
                clear S7
                by_cases hlt : k < n
                · have hltI : (k : Int) < (n : Int) := by omega
                  go_wp2_with fail
                  go_quiet (fail)
                  have S20 := S6.drewN nq
                  generalize wr.drewN nq = w6 at S20 ⊢
                  clear S6 c23 g0
                  obtain ⟨ao2, cap2, S21⟩ := Rc_open.1 S20
                  have hA := rc_at (m := rm m2) hon.ok.s.len S21
                  cases f with
                  | zero =>
                    have hz : (((0 : Nat) : Int) == 0) = true := rfl
                    have c25 := hA.bad
                    have f25 := hA.free 25
                    have S22 := rc_bad (m := rm m2) hon.ok.s.len S21 true
                    clear hA
                    go_wp2_with fail
                    go_meet
                    exact ⟨_, (final_dry hon HN.out (by rw [hk]; exact hltI)).of_frame hfr2 (by rw [← HRN.out, HE.out]), Rc_open.2 ⟨ao2, cap2, S22⟩⟩
                  | succ f =>
                    have hz : (((f + 1 : Nat) : Int) == 0) = false := by rw [beq_eq_false_iff_ne]; omega
                    obtain ⟨x, hx⟩ : ∃ x, code[k]? = some x := ⟨code[k]'(by rw [HN.out]; exact hlt), List.getElem?_eq_getElem _⟩
                    have hmay := HV.out k x hx
                    have hop := may_op hmay
                    obtain ⟨op, arg⟩ := x
                    simp only at hop hmay
                    have S23 := S20.drew
                    obtain ⟨bb, off, rfl, c0, c1⟩ := insv_cells (HRR.out _ (Sat.tail (Sat.tail (Sat.tail (Sat.tail (Sat.tail S23)))))) hx
                    have c23 : w6.drew.cell? ⟨pm, 23, none⟩ = some (.int .i64 (k : Int)) := by have := hA.pc; rw [show (rm m2).pc = (k : Int) from hk] at this; exact this
                    have g0 := S23.cell 4 rfl 0
                    simp only [List.getElem?_cons_zero] at g0
                    have hrok : RM.Ok (rm m2) := ⟨hon.ok.s.len, hon.ok.st, hon.ok.i0, hon.ok.i1, hon.ok.s.seed, hon.ok.frame, hon.st⟩
                    have hrpc : 0 ≤ (rm m2).pc ∧ (rm m2).pc ≤ 300 := by have := hon.pc; exact ⟨this.1, by show m2.pc ≤ 300; omega⟩
                    have hds := does_step HN.out hon (by rw [hk]; exact hltI) (by rw [hk]; exact hx) hmay hop
                    clear hA hx S21
                    rcases hds with ⟨h1, x, h2, hon', hf', hmore⟩ | ⟨h1, hfin⟩
                    · have HD : Hid (doesP op arg n (rm m2) = (true, rm x)) := Lib.hid (Prod.ext h1 h2)
                      have HE2 : Hid (runP code fu ⟨s, i0, i1, [], 0, false, false⟩ = runP code f x) := by show _ = _; rw [HE.out, hmore]
                      clear h1 h2 hmore
                      go_wp2_with fail
                      go_region_with (go_at_call 71; refine (does_any S23 hrok hrpc hmay hop).mono ?_; unfold DoesPost; rintro e w7 ⟨rfl, S24⟩; rw [HD.out] at S24 ⊢)
                      all_goals
                        (try simp only [Act.put, List.getElem_toArray, List.getElem_cons_zero, List.getElem_cons_succ, List.setIfInBounds_toArray, List.set_cons_zero, List.set_cons_succ])
                        go_wp2_with fail
                        go_roundw
                        case rel => exact ⟨f, x, by go_num, by omega, HE2, hon', hf'.trans hfr2, S24⟩
                        case measure => simp [intOf]
                    · obtain ⟨fm, hfm⟩ : ∃ fm, (doesP op arg n (rm m2)).2 = fm := ⟨_, rfl⟩
                      have HD : Hid (doesP op arg n (rm m2) = (false, fm)) := Lib.hid (Prod.ext h1 hfm)
                      have hfin' : Final s (b, m') fm := by have := hfin f; rw [hfm] at this; exact this.of_frame hfr2 (by rw [← HRN.out, HE.out])
                      clear h1 hfm hfin
                      go_wp2_with fail
                      go_region_with (go_at_call 71; refine (does_any S23 hrok hrpc hmay hop).mono ?_; unfold DoesPost; rintro e w7 ⟨rfl, S24⟩; rw [HD.out] at S24 ⊢)
                      all_goals
                        (try simp only [Act.put, List.getElem_toArray, List.getElem_cons_zero, List.getElem_cons_succ, List.setIfInBounds_toArray, List.set_cons_zero, List.set_cons_succ])
                        go_wp2_with fail
                        go_meet
                        exact ⟨fm, hfin', S24⟩
                · have hltI : ¬ (k : Int) < (n : Int) := by omega
                  go_wp2_with fail
                  go_quiet (fail)
                  go_wp2_with fail
                  go_meet
                  exact ⟨_, (final_stop hon f HN.out (by rw [hk]; omega)).of_frame hfr2 (by rw [← HRN.out, HE.out]), S6.drewN nq⟩
            case rest =>
              obtain ⟨fm, HFin, S6⟩ := hcut
              have hlf := HFin.len
              obtain ⟨ao, cp, S7⟩ := Rc_open.1 S6
              have hA := rc_at hlf S7
              have c25 := hA.bad
              cases hbd : fm.bad with
              | true =>
                rw [hbd] at c25
                go_wp2_with fail
                have S8 := S7.drew
                refine wp_region_held_drew (S := fun w' => (∀ j, j < 16 → w'.cell? ⟨pg + 1, 1 + j, none⟩ = (s.cells.map (Value.int .i32))[j]?) ∧ w'.cell? ⟨pg + 1, 17, none⟩ = some (.int .u32 s.seed)) (by kernel_rfl) (scellS hs.len (S8.sel [4])) (fun hHeld => ?_)
                first
                  | (refine wpAnyH_take (i := 3) (v := ?_) rfl (by kernel_rfl) (by kernel_rfl) (by kernel_rfl) (fun _ _ _ h => h) (Or.inl ⟨by rfl, ?_⟩) (by assumption) ?_
                     rotate_left
                     · (intro w hSw; (try dsimp only at hSw); first | (go_simp; done) | (go_simp; with_reducible rfl))
                     (try simp only [Act.put, List.getElem_toArray, List.getElem_cons_zero, List.getElem_cons_succ, List.setIfInBounds_toArray, List.set_cons_zero, List.set_cons_succ]))
                  | fail
                refine wpAnyH_take (i := 4) rfl (by kernel_rfl) (by kernel_rfl) (by kernel_rfl) (fun _ _ _ h => h) (yields_load_part rfl 44 _ rfl (g := pg + 1) (off := 1) (n := 16) (cs := s.cells.map (Value.int .i32)) rfl (fun w h => h.1) (by rw [List.length_map]; exact hs.len) Tryz.underlying44 rfl (by kernel_rfl)) (by assumption) ?_
                try simp only [Act.put, List.getElem_toArray, List.getElem_cons_zero, List.getElem_cons_succ, List.setIfInBounds_toArray, List.set_cons_zero, List.set_cons_succ]
                first
                  | (refine wpAnyH_take (i := 5) (v := ?_) rfl (by kernel_rfl) (by kernel_rfl) (by kernel_rfl) (fun _ _ _ h => h) (Or.inl ⟨by rfl, ?_⟩) (by assumption) ?_
                     rotate_left
                     · (intro w hSw; (try dsimp only at hSw); first | (go_simp; done) | (go_simp; with_reducible rfl))
                     (try simp only [Act.put, List.getElem_toArray, List.getElem_cons_zero, List.getElem_cons_succ, List.setIfInBounds_toArray, List.set_cons_zero, List.set_cons_succ]))
                  | fail
                first
                  | (refine wpAnyH_take (i := 6) (v := ?_) rfl (by kernel_rfl) (by kernel_rfl) (by kernel_rfl) (fun _ _ _ h => h) (Or.inl ⟨by rfl, ?_⟩) (by assumption) ?_
                     rotate_left
                     · (intro w hSw; (try dsimp only at hSw); first | (go_simp; done) | (go_simp; with_reducible rfl))
                     (try simp only [Act.put, List.getElem_toArray, List.getElem_cons_zero, List.getElem_cons_succ, List.setIfInBounds_toArray, List.set_cons_zero, List.set_cons_succ]))
                  | fail
                first
                  | (refine wpAnyH_take (i := 0) (v := ?_) rfl (by kernel_rfl) (by kernel_rfl) (by kernel_rfl) (fun _ _ _ h => h) (Or.inl ⟨by rfl, ?_⟩) (by assumption) ?_
                     rotate_left
                     · (intro w hSw; (try dsimp only at hSw); first | (go_simp; done) | (go_simp; with_reducible rfl))
                     (try simp only [Act.put, List.getElem_toArray, List.getElem_cons_zero, List.getElem_cons_succ, List.setIfInBounds_toArray, List.set_cons_zero, List.set_cons_succ]))
                  | fail
                first
                  | (refine wpAnyH_take (i := 1) (v := ?_) rfl (by kernel_rfl) (by kernel_rfl) (by kernel_rfl) (fun _ _ _ h => h) (Or.inl ⟨by rfl, ?_⟩) (by assumption) ?_
                     rotate_left
                     · (intro w hSw; (try dsimp only at hSw); first | (go_simp; done) | (go_simp; with_reducible rfl))
                     (try simp only [Act.put, List.getElem_toArray, List.getElem_cons_zero, List.getElem_cons_succ, List.setIfInBounds_toArray, List.set_cons_zero, List.set_cons_succ]))
                  | fail
                first
                  | (refine wpAnyH_take (i := 2) (v := ?_) rfl (by kernel_rfl) (by kernel_rfl) (by kernel_rfl) (fun _ _ _ h => h) (Or.inl ⟨by rfl, ?_⟩) (by assumption) ?_
                     rotate_left
                     · (intro w hSw; (try dsimp only at hSw); first | (go_simp; done) | (go_simp; with_reducible rfl))
                     (try simp only [Act.put, List.getElem_toArray, List.getElem_cons_zero, List.getElem_cons_succ, List.setIfInBounds_toArray, List.set_cons_zero, List.set_cons_succ]))
                  | fail
                first
                  | (refine wpAnyH_take (i := 7) (v := ?_) rfl (by kernel_rfl) (by kernel_rfl) (by kernel_rfl) (fun _ _ _ h => h) (Or.inl ⟨by rfl, ?_⟩) (by assumption) ?_
                     rotate_left
                     · (intro w hSw; (try dsimp only at hSw); first | (go_simp; done) | (go_simp; with_reducible rfl))
                     (try simp only [Act.put, List.getElem_toArray, List.getElem_cons_zero, List.getElem_cons_succ, List.setIfInBounds_toArray, List.set_cons_zero, List.set_cons_succ]))
                  | fail
                first
                  | (refine wpAnyH_take (i := 8) (v := ?_) rfl (by kernel_rfl) (by kernel_rfl) (by kernel_rfl) (fun _ _ _ h => h) (Or.inl ⟨by rfl, ?_⟩) (by assumption) ?_
                     rotate_left
                     · (intro w hSw; (try dsimp only at hSw); first | (go_simp; done) | (go_simp; with_reducible rfl))
                     (try simp only [Act.put, List.getElem_toArray, List.getElem_cons_zero, List.getElem_cons_succ, List.setIfInBounds_toArray, List.set_cons_zero, List.set_cons_succ]))
                  | fail
                first
                  | (refine wpAnyH_take (i := 9) (v := ?_) rfl (by kernel_rfl) (by kernel_rfl) (by kernel_rfl) (fun _ _ _ h => h) (Or.inl ⟨by rfl, ?_⟩) (by assumption) ?_
                     rotate_left
                     · (intro w hSw; (try dsimp only at hSw); first | (go_simp; done) | (go_simp; with_reducible rfl))
                     (try simp only [Act.put, List.getElem_toArray, List.getElem_cons_zero, List.getElem_cons_succ, List.setIfInBounds_toArray, List.set_cons_zero, List.set_cons_succ]))
                  | fail
                refine wpAnyH_list (l' := #[true, true, true, true, true, true, true, true, true, true, false, false, false, false, false, false, false, false]) (by kernel_rfl) ?_
                refine wpAnyH_ready (rs := [10]) (by kernel_rfl) (by simp) ?_
                refine AllReadyH.cons rfl ?_ AllReadyH.nil
                intro K hK
                refine step_store_sat (off := 1) (n := 16) (news := s.cells.map (Value.int .i32)) rfl 44 _ _ rfl S8 rfl rfl (by rw [List.length_map]; exact hs.len) (by rw [rvals_length hlf]; omega) (by kernel_rfl) (ivs_one _) ?_
                intro w4 S9
                rw [rvals_cells hlf hs.len] at S9
                refine hK.out _ _ (scellS hs.len (S9.sel [4])) (fun h4 => ?_)
                clear hK K hHeld
                try simp only [Act.put, List.getElem_toArray, List.getElem_cons_zero, List.getElem_cons_succ, List.setIfInBounds_toArray, List.set_cons_zero, List.set_cons_succ]
                first
                  | (refine wpAnyH_take (i := 11) (v := ?_) rfl (by kernel_rfl) (by kernel_rfl) (by kernel_rfl) (fun _ _ _ h => h) (Or.inl ⟨by rfl, ?_⟩) (by assumption) ?_
                     rotate_left
                     · (intro w hSw; (try dsimp only at hSw); first | (go_simp; done) | (go_simp; with_reducible rfl))
                     (try simp only [Act.put, List.getElem_toArray, List.getElem_cons_zero, List.getElem_cons_succ, List.setIfInBounds_toArray, List.set_cons_zero, List.set_cons_succ]))
                  | fail
                first
                  | (refine wpAnyH_take (i := 12) (v := ?_) rfl (by kernel_rfl) (by kernel_rfl) (by kernel_rfl) (fun _ _ _ h => h) (Or.inl ⟨by rfl, ?_⟩) (by assumption) ?_
                     rotate_left
                     · (intro w hSw; (try dsimp only at hSw); first | (go_simp; done) | (go_simp; with_reducible rfl))
                     (try simp only [Act.put, List.getElem_toArray, List.getElem_cons_zero, List.getElem_cons_succ, List.setIfInBounds_toArray, List.set_cons_zero, List.set_cons_succ]))
                  | fail
                first
                  | (refine wpAnyH_take (i := 13) (v := ?_) rfl (by kernel_rfl) (by kernel_rfl) (by kernel_rfl) (fun _ _ _ h => h) (Or.inl ⟨by rfl, ?_⟩) (by assumption) ?_
                     rotate_left
                     · (intro w hSw; (try dsimp only at hSw); first | (go_simp; done) | (go_simp; with_reducible rfl))
                     (try simp only [Act.put, List.getElem_toArray, List.getElem_cons_zero, List.getElem_cons_succ, List.setIfInBounds_toArray, List.set_cons_zero, List.set_cons_succ]))
                  | fail
                refine wpAnyH_list (l' := #[true, true, true, true, true, true, true, true, true, true, true, true, true, true, false, false, false, false]) (by kernel_rfl) ?_
                refine wpAnyH_ready (rs := [14]) (by kernel_rfl) (by simp) ?_
                refine AllReadyH.cons rfl ?_ AllReadyH.nil
                intro K hK
                have hB := rc_at (m := { fm with s := { fm.s with cells := s.cells } }) hs.len S9
                have c17 := hB.seed
                have f17 := hB.free 17
                have S10 := rc_seed (m := { fm with s := { fm.s with cells := s.cells } }) hs.len S9 s.seed
                go_simp
                refine hK.out _ _ (scellS hs.len (S10.sel [4])) (fun h5 => ?_)
                clear hK K h4
                try simp only [Act.put, List.getElem_toArray, List.getElem_cons_zero, List.getElem_cons_succ, List.setIfInBounds_toArray, List.set_cons_zero, List.set_cons_succ]
                first
                  | (refine wpAnyH_take (i := 15) (v := ?_) rfl (by kernel_rfl) (by kernel_rfl) (by kernel_rfl) (fun _ _ _ h => h) (Or.inl ⟨by rfl, ?_⟩) (by assumption) ?_
                     rotate_left
                     · (intro w hSw; (try dsimp only at hSw); first | (go_simp; done) | (go_simp; with_reducible rfl))
                     (try simp only [Act.put, List.getElem_toArray, List.getElem_cons_zero, List.getElem_cons_succ, List.setIfInBounds_toArray, List.set_cons_zero, List.set_cons_succ]))
                  | fail
                first
                  | (refine wpAnyH_take (i := 16) (v := ?_) rfl (by kernel_rfl) (by kernel_rfl) (by kernel_rfl) (fun _ _ _ h => h) (Or.inl ⟨by rfl, ?_⟩) (by assumption) ?_
                     rotate_left
                     · (intro w hSw; (try dsimp only at hSw); first | (go_simp; done) | (go_simp; with_reducible rfl))
                     (try simp only [Act.put, List.getElem_toArray, List.getElem_cons_zero, List.getElem_cons_succ, List.setIfInBounds_toArray, List.set_cons_zero, List.set_cons_succ]))
                  | fail
                refine wpAnyH_list (l' := #[true, true, true, true, true, true, true, true, true, true, true, true, true, true, true, true, true, false]) (by kernel_rfl) ?_
                refine wpAnyH_ready (rs := [17]) (by kernel_rfl) (by simp) ?_
                refine AllReadyH.cons rfl ?_ AllReadyH.nil
                intro K hK
                have hB2 := rc_at (m := { fm with s := { fm.s with cells := s.cells, seed := s.seed } }) hs.len S10
                have c24 := hB2.won
                have f24 := hB2.free 24
                have S11 := rc_won (m := { fm with s := { fm.s with cells := s.cells, seed := s.seed } }) hs.len S10 (-1)
                go_simp
                refine hK.out _ _ (scellS hs.len (S11.sel [4])) (fun h6 => ?_)
                clear hK K h5
                try simp only [Act.put, List.getElem_toArray, List.getElem_cons_zero, List.getElem_cons_succ, List.setIfInBounds_toArray, List.set_cons_zero, List.set_cons_succ]
                refine wpAnyH_done (by kernel_rfl) ?_ _
                try simp only [List.getElem_toArray, List.getElem_cons_zero, List.getElem_cons_succ, List.setIfInBounds_toArray, List.set_cons_zero, List.set_cons_succ]
                have hend : endP cap (if b = true then m'.s else s) = refEnd cap s fm := final_end HFin HOV.out hwin hlt
                obtain ⟨f2, hf2⟩ : ∃ f2 : RM, f2 = { fm with s := { fm.s with cells := s.cells, seed := s.seed }, won := -1 } := ⟨_, rfl⟩
                have hendB : endP cap (if b = true then m'.s else s) = (if f2.s.frame + 1 = cap then ⟨f2.s.frame + 1, f2.s.cells, f2.s.seed, true, if f2.s.cells[0]?.getD 0 = f2.s.cells[1]?.getD 0 then 2 else if f2.s.cells[0]?.getD 0 < f2.s.cells[1]?.getD 0 then 1 else 0⟩ else ⟨f2.s.frame + 1, f2.s.cells, f2.s.seed, false, 0⟩) :=
                  hend.trans (by rw [hf2]; unfold refEnd; simp only [hbd, if_true]; rw [if_neg (by decide)])
                have HFW : f2.s.winner = 0 := by rw [hf2]; exact HFin.winner
                have HFO : f2.s.over = false := by rw [hf2]; exact HFin.over
                have hlf2 : f2.s.cells.length = 16 := by rw [hf2]; exact hs.len
                have hff : 0 ≤ f2.s.frame ∧ f2.s.frame ≤ 600 := by rw [hf2]; show 0 ≤ fm.s.frame ∧ fm.s.frame ≤ 600; rw [HFin.frame]; exact hfr
                have hwo : f2.won = -1 := by rw [hf2]
                have hkey : ∀ (w' : World) (L' : List Asn), Sat W0 w' (blk pm (rvals { fm with s := { fm.s with cells := s.cells, seed := s.seed }, won := -1 } ao cp) 140 :: L') → Sat W0 w' (blk pm (rvals f2 ao cp) 140 :: L') := by
                  intro w' L' h
                  rw [hf2]
                  exact h
                have S12 := hkey _ _ S11
                clear hkey S11 S10 S9 S8 S7 S6 hB2 hB c17 f17 c24 f24 hend hf2 hlf hA c25
                generalize (w4.setCell ⟨pm, 17, none⟩ (.int .u32 s.seed)).setCell ⟨pm, 24, none⟩ (.int .i64 (-1)) = w5 at S12 ⊢
                have hlf := hlf2
                have hA := rc_at hlf S12
                have e0 := hA.frame
                have f0 := hA.free 0
                have e18 := hA.over
                have f18 := hA.free 18
                have e19 := hA.winner
                have f19 := hA.free 19
                have e24 := hA.won
                rw [hwo] at e24
                have a0 := hA.cells 0 (by omega)
                have a1 := hA.cells 1 (by omega)
                have gc := S12.cell 5 rfl 1
                simp only [List.getElem?_cons_zero, List.getElem?_cons_succ] at gc
                clear hA
                have S9 := rc_frame S12 (f2.s.frame + 1)
                go_upto_region 21 with fail
                generalize w5.setCell ⟨pm, 0, none⟩ (.int .i64 (f2.s.frame + 1)) = w9 at S9 ⊢
                clear e0 f0 e18 f18 e19 f19 e24 a0 a1 gc
                have hB := rc_at (m := { f2 with s := { f2.s with frame := f2.s.frame + 1 } }) hlf S9
                have e0 : w9.cell? ⟨pm, 0, none⟩ = some (.int .i64 (f2.s.frame + 1)) := hB.frame
                have gc := S9.cell 5 rfl 1
                simp only [List.getElem?_cons_zero, List.getElem?_cons_succ] at gc
                clear hB
                by_cases hcp : f2.s.frame + 1 = cap
                · have hz : (f2.s.frame + 1 == cap) = true := by simpa using hcp
                  have hcp' := Lib.hid hcp
                  clear hcp
                  go_quiet (fail)
                  have S10 := S9.drewN nq
                  generalize w9.drewN nq = w10 at S10 ⊢
                  clear S9 e0 gc
                  have hB := rc_at (m := { f2 with s := { f2.s with frame := f2.s.frame + 1 } }) hlf S10
                  have e18 := hB.over
                  have f18 := hB.free 18
                  have S11 := rc_over (m := { f2 with s := { f2.s with frame := f2.s.frame + 1 } }) hlf S10 true
                  clear hB
                  go_upto_region 23 with fail
                  generalize w10.setCell ⟨pm, 18, none⟩ (.bool true) = w11 at S11 ⊢
                  clear S10 e18 f18
                  have hB := rc_at (m := { f2 with s := { f2.s with frame := f2.s.frame + 1, over := true } }) hlf S11
                  have a0 : w11.cell? ⟨pm, 1 + 0, none⟩ = some (.int .i32 (f2.s.cells[0]?.getD 0)) := hB.cells 0 (by omega)
                  have a1 : w11.cell? ⟨pm, 1 + 1, none⟩ = some (.int .i32 (f2.s.cells[1]?.getD 0)) := hB.cells 1 (by omega)
                  have hend2 : ∀ k : Int, (if f2.s.cells[0]?.getD 0 = f2.s.cells[1]?.getD 0 then (2 : Int) else if f2.s.cells[0]?.getD 0 < f2.s.cells[1]?.getD 0 then 1 else 0) = k → endP cap (if b = true then m'.s else s) = ({ f2 with s := { f2.s with frame := f2.s.frame + 1, over := true, winner := k } } : RM).s := by
                    intro k hk
                    refine hendB.trans ?_
                    rw [if_pos hcp'.out, hk]
                  generalize f2.s.cells[0]?.getD 0 = x0 at a0 hend2
                  generalize f2.s.cells[1]?.getD 0 = x1 at a1 hend2
                  clear hB
                  simp only [Nat.reduceAdd] at a0 a1
                  by_cases hx : x0 = x1
                  · have hz2 : (x0 == x1) = true := by simpa using hx
                    have hE := hend2 2 (if_pos hx)
                    have HE := Lib.hid hE
                    clear hE hend2 hx
                    go_quiet (fail)
                    have S12 := S11.drewN nq
                    generalize w11.drewN nq = w12 at S12 ⊢
                    clear S11 a0 a1
                    have hB := rc_at (m := { f2 with s := { f2.s with frame := f2.s.frame + 1, over := true } }) hlf S12
                    have e19 := hB.winner
                    have f19 := hB.free 19
                    have S13' := rc_winner (m := { f2 with s := { f2.s with frame := f2.s.frame + 1, over := true } }) hlf S12 2
                    clear hB
                    go_upto_region 27 with fail
                    generalize w12.setCell ⟨pm, 19, none⟩ (.int .i64 2) = w13 at S13' ⊢
                    clear S12 e19 f19
                    have h3 : ({ f2 with s := { f2.s with frame := f2.s.frame + 1, over := true, winner := 2 } } : RM).s.cells.length = 16 := hlf
                    have S13 : Sat W0 w13 (blk pm (rvals { f2 with s := { f2.s with frame := f2.s.frame + 1, over := true, winner := 2 } } ao cp) 140 :: _) := S13'
                    generalize ({ f2 with s := { f2.s with frame := f2.s.frame + 1, over := true, winner := 2 } } : RM) = m3 at S13 HE h3
                    have HMB := Lib.hid (rv_back m3 h3 ao cp)
                    have HL3 := Lib.hid (svals_length h3)
                    go_wp2_with (first
                      | (refine wpList_store_sat (off := 0) (n := 20) rfl 46 _ _ rfl (S13.sel [2]) rfl rfl HL3.out (by decide) Tryz.sizeS (svals_one m3.s) ?_; intro w14 S14; rw [zstore] at S14)
                      | (refine wpList_load_part rfl 46 _ rfl (n := 20) rfl (S13.part 0 20) (by rw [HMB.out, HL3.out]) Tryz.underlying46 rfl Tryz.sizeS ?_; rw [HMB.out]))
                    refine bodyPost_ret (results_cell_tmp_sat rfl _ S14 rfl Tryz.underlying46 rfl (by rw [HL3.out]; exact Tryz.sizeS) rfl) rfl ⟨?_, Sat.tail (Sat.tail (Sat.tail (Sat.tail (Sat.tail (Sat.tail S14)))))⟩
                    rw [HF.out]
                    show _ = Ending.returned (.tuple #[.agg (svals (endP cap (if b = true then m'.s else s))).toArray, .int .i64 0])
                    rw [HE.out]
                    rfl
                  · have hz2 : (x0 == x1) = false := by simpa using hx
                    go_quiet (fail)
                    have S12 := S11.drewN nq
                    have b0 : (w11.drewN nq).cell? ⟨pm, 1, none⟩ = some (.int .i32 x0) := a0
                    have b1 : (w11.drewN nq).cell? ⟨pm, 2, none⟩ = some (.int .i32 x1) := a1
                    generalize w11.drewN nq = w12 at S12 b0 b1 ⊢
                    clear S11 a0 a1
                    by_cases hy : x0 < x1
                    · have hE := hend2 1 (by rw [if_neg hx, if_pos hy])
                      have HE := Lib.hid hE
                      clear hE hend2 hx
                      go_upto_region 25 with fail
                      go_quiet (fail)
                      have S14' := S12.drewN nq
                      generalize w12.drewN nq = w13 at S14' ⊢
                      clear S12 b0 b1
                      have hB := rc_at (m := { f2 with s := { f2.s with frame := f2.s.frame + 1, over := true } }) hlf S14'
                      have e19 := hB.winner
                      have f19 := hB.free 19
                      have S13' := rc_winner (m := { f2 with s := { f2.s with frame := f2.s.frame + 1, over := true } }) hlf S14' 1
                      clear hB
                      go_upto_region 27 with fail
                      generalize w13.setCell ⟨pm, 19, none⟩ (.int .i64 1) = w15 at S13' ⊢
                      clear S14' e19 f19
                      have h3 : ({ f2 with s := { f2.s with frame := f2.s.frame + 1, over := true, winner := 1 } } : RM).s.cells.length = 16 := hlf
                      have S13 : Sat W0 w15 (blk pm (rvals { f2 with s := { f2.s with frame := f2.s.frame + 1, over := true, winner := 1 } } ao cp) 140 :: _) := S13'
                      generalize ({ f2 with s := { f2.s with frame := f2.s.frame + 1, over := true, winner := 1 } } : RM) = m3 at S13 HE h3
                      have HMB := Lib.hid (rv_back m3 h3 ao cp)
                      have HL3 := Lib.hid (svals_length h3)
                      go_wp2_with (first
                        | (refine wpList_store_sat (off := 0) (n := 20) rfl 46 _ _ rfl (S13.sel [2]) rfl rfl HL3.out (by decide) Tryz.sizeS (svals_one m3.s) ?_; intro w14 S14; rw [zstore] at S14)
                        | (refine wpList_load_part rfl 46 _ rfl (n := 20) rfl (S13.part 0 20) (by rw [HMB.out, HL3.out]) Tryz.underlying46 rfl Tryz.sizeS ?_; rw [HMB.out]))
                      refine bodyPost_ret (results_cell_tmp_sat rfl _ S14 rfl Tryz.underlying46 rfl (by rw [HL3.out]; exact Tryz.sizeS) rfl) rfl ⟨?_, Sat.tail (Sat.tail (Sat.tail (Sat.tail (Sat.tail (Sat.tail S14)))))⟩
                      rw [HF.out]
                      show _ = Ending.returned (.tuple #[.agg (svals (endP cap (if b = true then m'.s else s))).toArray, .int .i64 0])
                      rw [HE.out]
                      rfl
                    · have hE := (hend2 0 (by rw [if_neg hx, if_neg hy])).trans (show _ = ({ f2 with s := { f2.s with frame := f2.s.frame + 1, over := true } } : RM).s by show _ = (⟨_, _, _, _, f2.s.winner⟩ : VS); rw [HFW])
                      have HE := Lib.hid hE
                      clear hE hend2 hx
                      go_upto_region 25 with fail
                      go_quiet (fail)
                      have S14' := S12.drewN nq
                      generalize w12.drewN nq = w13 at S14' ⊢
                      clear S12 b0 b1
                      go_upto_region 27 with fail
                      have h3 : ({ f2 with s := { f2.s with frame := f2.s.frame + 1, over := true } } : RM).s.cells.length = 16 := hlf
                      have S13 : Sat W0 w13 (blk pm (rvals { f2 with s := { f2.s with frame := f2.s.frame + 1, over := true } } ao cp) 140 :: _) := S14'
                      generalize ({ f2 with s := { f2.s with frame := f2.s.frame + 1, over := true } } : RM) = m3 at S13 HE h3
                      have HMB := Lib.hid (rv_back m3 h3 ao cp)
                      have HL3 := Lib.hid (svals_length h3)
                      go_wp2_with (first
                        | (refine wpList_store_sat (off := 0) (n := 20) rfl 46 _ _ rfl (S13.sel [2]) rfl rfl HL3.out (by decide) Tryz.sizeS (svals_one m3.s) ?_; intro w14 S14; rw [zstore] at S14)
                        | (refine wpList_load_part rfl 46 _ rfl (n := 20) rfl (S13.part 0 20) (by rw [HMB.out, HL3.out]) Tryz.underlying46 rfl Tryz.sizeS ?_; rw [HMB.out]))
                      refine bodyPost_ret (results_cell_tmp_sat rfl _ S14 rfl Tryz.underlying46 rfl (by rw [HL3.out]; exact Tryz.sizeS) rfl) rfl ⟨?_, Sat.tail (Sat.tail (Sat.tail (Sat.tail (Sat.tail (Sat.tail S14)))))⟩
                      rw [HF.out]
                      show _ = Ending.returned (.tuple #[.agg (svals (endP cap (if b = true then m'.s else s))).toArray, .int .i64 0])
                      rw [HE.out]
                      rfl
                · have hz : (f2.s.frame + 1 == cap) = false := by simpa using hcp
                  have hE : endP cap (if b = true then m'.s else s) = ({ f2 with s := { f2.s with frame := f2.s.frame + 1 } } : RM).s := hendB.trans (by rw [if_neg hcp]; show _ = (⟨_, _, _, f2.s.over, f2.s.winner⟩ : VS); rw [HFW, HFO])
                  have HE := Lib.hid hE
                  clear hE
                  go_quiet (fail)
                  have S10 := S9.drewN nq
                  generalize w9.drewN nq = w10 at S10 ⊢
                  clear S9 e0 gc
                  have h3 : ({ f2 with s := { f2.s with frame := f2.s.frame + 1 } } : RM).s.cells.length = 16 := hlf
                  have S13 : Sat W0 w10 (blk pm (rvals { f2 with s := { f2.s with frame := f2.s.frame + 1 } } ao cp) 140 :: _) := S10
                  generalize ({ f2 with s := { f2.s with frame := f2.s.frame + 1 } } : RM) = m3 at S13 HE h3
                  have HMB := Lib.hid (rv_back m3 h3 ao cp)
                  have HL3 := Lib.hid (svals_length h3)
                  go_wp2_with (first
                    | (refine wpList_store_sat (off := 0) (n := 20) rfl 46 _ _ rfl (S13.sel [2]) rfl rfl HL3.out (by decide) Tryz.sizeS (svals_one m3.s) ?_; intro w14 S14; rw [zstore] at S14)
                    | (refine wpList_load_part rfl 46 _ rfl (n := 20) rfl (S13.part 0 20) (by rw [HMB.out, HL3.out]) Tryz.underlying46 rfl Tryz.sizeS ?_; rw [HMB.out]))
                  refine bodyPost_ret (results_cell_tmp_sat rfl _ S14 rfl Tryz.underlying46 rfl (by rw [HL3.out]; exact Tryz.sizeS) rfl) rfl ⟨?_, Sat.tail (Sat.tail (Sat.tail (Sat.tail (Sat.tail (Sat.tail S14)))))⟩
                  rw [HF.out]
                  show _ = Ending.returned (.tuple #[.agg (svals (endP cap (if b = true then m'.s else s))).toArray, .int .i64 0])
                  rw [HE.out]
                  rfl
              | false =>
                rw [hbd] at c25
                have e0 := hA.frame
                have f0 := hA.free 0
                have e18 := hA.over
                have f18 := hA.free 18
                have e19 := hA.winner
                have f19 := hA.free 19
                have e24 := hA.won
                have a0 := hA.cells 0 (by omega)
                have a1 := hA.cells 1 (by omega)
                have gc := S7.cell 5 rfl 1
                simp only [List.getElem?_cons_zero, List.getElem?_cons_succ] at gc
                have hend : endP cap (if b = true then m'.s else s) = refEnd cap s fm := final_end HFin HOV.out hwin hlt
                have hff : 0 ≤ fm.s.frame ∧ fm.s.frame ≤ 600 := by rw [HFin.frame]; exact hfr
                clear hA
                by_cases hwn : 0 ≤ fm.won
                · have hE : endP cap (if b = true then m'.s else s) = ({ fm with s := { fm.s with frame := fm.s.frame + 1, over := true, winner := fm.won } } : RM).s := hend.trans (by unfold refEnd; simp only [hbd, Bool.false_eq_true, if_false]; rw [if_pos hwn])
                  have HE := Lib.hid hE
                  clear hE
                  go_upto_region 20 with fail
                  have S13 := rc_winner (m := { fm with s := { fm.s with frame := fm.s.frame + 1, over := true } }) hlf (rc_over (m := { fm with s := { fm.s with frame := fm.s.frame + 1 } }) hlf (rc_frame S7 (fm.s.frame + 1)) true) fm.won
                  have h3 : ({ fm with s := { fm.s with frame := fm.s.frame + 1, over := true, winner := fm.won } } : RM).s.cells.length = 16 := hlf
                  generalize ({ fm with s := { fm.s with frame := fm.s.frame + 1, over := true, winner := fm.won } } : RM) = m3 at S13 HE h3
                  generalize (((wc.setCell ⟨pm, 0, none⟩ (.int .i64 (fm.s.frame + 1))).setCell ⟨pm, 18, none⟩ (.bool true)).setCell ⟨pm, 19, none⟩ (.int .i64 fm.won)) = w13 at S13 ⊢
                  have HMB := Lib.hid (rv_back m3 h3 ao cp)
                  have HL3 := Lib.hid (svals_length h3)
                  go_wp2_with (first
                    | (refine wpList_store_sat (off := 0) (n := 20) rfl 46 _ _ rfl (S13.sel [2]) rfl rfl HL3.out (by decide) Tryz.sizeS (svals_one m3.s) ?_; intro w14 S14; rw [zstore] at S14)
                    | (refine wpList_load_part rfl 46 _ rfl (n := 20) rfl (S13.part 0 20) (by rw [HMB.out, HL3.out]) Tryz.underlying46 rfl Tryz.sizeS ?_; rw [HMB.out]))
                  refine bodyPost_ret (results_cell_tmp_sat rfl _ S14 rfl Tryz.underlying46 rfl (by rw [HL3.out]; exact Tryz.sizeS) rfl) rfl ⟨?_, Sat.tail (Sat.tail (Sat.tail (Sat.tail (Sat.tail (Sat.tail S14)))))⟩
                  rw [HF.out]
                  show _ = Ending.returned (.tuple #[.agg (svals (endP cap (if b = true then m'.s else s))).toArray, .int .i64 0])
                  rw [HE.out]
                  rfl
                · have hendB : endP cap (if b = true then m'.s else s) = (if fm.s.frame + 1 = cap then ⟨fm.s.frame + 1, fm.s.cells, fm.s.seed, true, if fm.s.cells[0]?.getD 0 = fm.s.cells[1]?.getD 0 then 2 else if fm.s.cells[0]?.getD 0 < fm.s.cells[1]?.getD 0 then 1 else 0⟩ else ⟨fm.s.frame + 1, fm.s.cells, fm.s.seed, false, 0⟩) :=
                    hend.trans (by unfold refEnd; simp only [hbd, Bool.false_eq_true, if_false]; rw [if_neg hwn])
                  have HFW := HFin.winner
                  have HFO := HFin.over
                  have S9 := rc_frame S7 (fm.s.frame + 1)
                  go_upto_region 21 with fail
                  generalize wc.setCell ⟨pm, 0, none⟩ (.int .i64 (fm.s.frame + 1)) = w9 at S9 ⊢
                  clear e0 f0 e18 f18 e19 f19 e24 a0 a1 gc c25
                  have hB := rc_at (m := { fm with s := { fm.s with frame := fm.s.frame + 1 } }) hlf S9
                  have e0 : w9.cell? ⟨pm, 0, none⟩ = some (.int .i64 (fm.s.frame + 1)) := hB.frame
                  have gc := S9.cell 5 rfl 1
                  simp only [List.getElem?_cons_zero, List.getElem?_cons_succ] at gc
                  clear hB
                  by_cases hcp : fm.s.frame + 1 = cap
                  · have hz : (fm.s.frame + 1 == cap) = true := by simpa using hcp
                    have hcp' := Lib.hid hcp
                    clear hcp
                    go_quiet (fail)
                    have S10 := S9.drewN nq
                    generalize w9.drewN nq = w10 at S10 ⊢
                    clear S9 e0 gc
                    have hB := rc_at (m := { fm with s := { fm.s with frame := fm.s.frame + 1 } }) hlf S10
                    have e18 := hB.over
                    have f18 := hB.free 18
                    have S11 := rc_over (m := { fm with s := { fm.s with frame := fm.s.frame + 1 } }) hlf S10 true
                    clear hB
                    go_upto_region 23 with fail
                    generalize w10.setCell ⟨pm, 18, none⟩ (.bool true) = w11 at S11 ⊢
                    clear S10 e18 f18
                    have hB := rc_at (m := { fm with s := { fm.s with frame := fm.s.frame + 1, over := true } }) hlf S11
                    have a0 : w11.cell? ⟨pm, 1 + 0, none⟩ = some (.int .i32 (fm.s.cells[0]?.getD 0)) := hB.cells 0 (by omega)
                    have a1 : w11.cell? ⟨pm, 1 + 1, none⟩ = some (.int .i32 (fm.s.cells[1]?.getD 0)) := hB.cells 1 (by omega)
                    have hend2 : ∀ k : Int, (if fm.s.cells[0]?.getD 0 = fm.s.cells[1]?.getD 0 then (2 : Int) else if fm.s.cells[0]?.getD 0 < fm.s.cells[1]?.getD 0 then 1 else 0) = k → endP cap (if b = true then m'.s else s) = ({ fm with s := { fm.s with frame := fm.s.frame + 1, over := true, winner := k } } : RM).s := by
                      intro k hk
                      refine hendB.trans ?_
                      rw [if_pos hcp'.out, hk]
                    generalize fm.s.cells[0]?.getD 0 = x0 at a0 hend2
                    generalize fm.s.cells[1]?.getD 0 = x1 at a1 hend2
                    clear hB
                    simp only [Nat.reduceAdd] at a0 a1
                    by_cases hx : x0 = x1
                    · have hz2 : (x0 == x1) = true := by simpa using hx
                      have hE := hend2 2 (if_pos hx)
                      have HE := Lib.hid hE
                      clear hE hend2 hx
                      go_quiet (fail)
                      have S12 := S11.drewN nq
                      generalize w11.drewN nq = w12 at S12 ⊢
                      clear S11 a0 a1
                      have hB := rc_at (m := { fm with s := { fm.s with frame := fm.s.frame + 1, over := true } }) hlf S12
                      have e19 := hB.winner
                      have f19 := hB.free 19
                      have S13' := rc_winner (m := { fm with s := { fm.s with frame := fm.s.frame + 1, over := true } }) hlf S12 2
                      clear hB
                      go_upto_region 27 with fail
                      generalize w12.setCell ⟨pm, 19, none⟩ (.int .i64 2) = w13 at S13' ⊢
                      clear S12 e19 f19
                      have h3 : ({ fm with s := { fm.s with frame := fm.s.frame + 1, over := true, winner := 2 } } : RM).s.cells.length = 16 := hlf
                      have S13 : Sat W0 w13 (blk pm (rvals { fm with s := { fm.s with frame := fm.s.frame + 1, over := true, winner := 2 } } ao cp) 140 :: _) := S13'
                      generalize ({ fm with s := { fm.s with frame := fm.s.frame + 1, over := true, winner := 2 } } : RM) = m3 at S13 HE h3
                      have HMB := Lib.hid (rv_back m3 h3 ao cp)
                      have HL3 := Lib.hid (svals_length h3)
                      go_wp2_with (first
                        | (refine wpList_store_sat (off := 0) (n := 20) rfl 46 _ _ rfl (S13.sel [2]) rfl rfl HL3.out (by decide) Tryz.sizeS (svals_one m3.s) ?_; intro w14 S14; rw [zstore] at S14)
                        | (refine wpList_load_part rfl 46 _ rfl (n := 20) rfl (S13.part 0 20) (by rw [HMB.out, HL3.out]) Tryz.underlying46 rfl Tryz.sizeS ?_; rw [HMB.out]))
                      refine bodyPost_ret (results_cell_tmp_sat rfl _ S14 rfl Tryz.underlying46 rfl (by rw [HL3.out]; exact Tryz.sizeS) rfl) rfl ⟨?_, Sat.tail (Sat.tail (Sat.tail (Sat.tail (Sat.tail (Sat.tail S14)))))⟩
                      rw [HF.out]
                      show _ = Ending.returned (.tuple #[.agg (svals (endP cap (if b = true then m'.s else s))).toArray, .int .i64 0])
                      rw [HE.out]
                      rfl
                    · have hz2 : (x0 == x1) = false := by simpa using hx
                      go_quiet (fail)
                      have S12 := S11.drewN nq
                      have b0 : (w11.drewN nq).cell? ⟨pm, 1, none⟩ = some (.int .i32 x0) := a0
                      have b1 : (w11.drewN nq).cell? ⟨pm, 2, none⟩ = some (.int .i32 x1) := a1
                      generalize w11.drewN nq = w12 at S12 b0 b1 ⊢
                      clear S11 a0 a1
                      by_cases hy : x0 < x1
                      · have hE := hend2 1 (by rw [if_neg hx, if_pos hy])
                        have HE := Lib.hid hE
                        clear hE hend2 hx
                        go_upto_region 25 with fail
                        go_quiet (fail)
                        have S14' := S12.drewN nq
                        generalize w12.drewN nq = w13 at S14' ⊢
                        clear S12 b0 b1
                        have hB := rc_at (m := { fm with s := { fm.s with frame := fm.s.frame + 1, over := true } }) hlf S14'
                        have e19 := hB.winner
                        have f19 := hB.free 19
                        have S13' := rc_winner (m := { fm with s := { fm.s with frame := fm.s.frame + 1, over := true } }) hlf S14' 1
                        clear hB
                        go_upto_region 27 with fail
                        generalize w13.setCell ⟨pm, 19, none⟩ (.int .i64 1) = w15 at S13' ⊢
                        clear S14' e19 f19
                        have h3 : ({ fm with s := { fm.s with frame := fm.s.frame + 1, over := true, winner := 1 } } : RM).s.cells.length = 16 := hlf
                        have S13 : Sat W0 w15 (blk pm (rvals { fm with s := { fm.s with frame := fm.s.frame + 1, over := true, winner := 1 } } ao cp) 140 :: _) := S13'
                        generalize ({ fm with s := { fm.s with frame := fm.s.frame + 1, over := true, winner := 1 } } : RM) = m3 at S13 HE h3
                        have HMB := Lib.hid (rv_back m3 h3 ao cp)
                        have HL3 := Lib.hid (svals_length h3)
                        go_wp2_with (first
                          | (refine wpList_store_sat (off := 0) (n := 20) rfl 46 _ _ rfl (S13.sel [2]) rfl rfl HL3.out (by decide) Tryz.sizeS (svals_one m3.s) ?_; intro w14 S14; rw [zstore] at S14)
                          | (refine wpList_load_part rfl 46 _ rfl (n := 20) rfl (S13.part 0 20) (by rw [HMB.out, HL3.out]) Tryz.underlying46 rfl Tryz.sizeS ?_; rw [HMB.out]))
                        refine bodyPost_ret (results_cell_tmp_sat rfl _ S14 rfl Tryz.underlying46 rfl (by rw [HL3.out]; exact Tryz.sizeS) rfl) rfl ⟨?_, Sat.tail (Sat.tail (Sat.tail (Sat.tail (Sat.tail (Sat.tail S14)))))⟩
                        rw [HF.out]
                        show _ = Ending.returned (.tuple #[.agg (svals (endP cap (if b = true then m'.s else s))).toArray, .int .i64 0])
                        rw [HE.out]
                        rfl
                      · have hE := (hend2 0 (by rw [if_neg hx, if_neg hy])).trans (show _ = ({ fm with s := { fm.s with frame := fm.s.frame + 1, over := true } } : RM).s by show _ = (⟨_, _, _, _, fm.s.winner⟩ : VS); rw [HFW])
                        have HE := Lib.hid hE
                        clear hE hend2 hx
                        go_upto_region 25 with fail
                        go_quiet (fail)
                        have S14' := S12.drewN nq
                        generalize w12.drewN nq = w13 at S14' ⊢
                        clear S12 b0 b1
                        go_upto_region 27 with fail
                        have h3 : ({ fm with s := { fm.s with frame := fm.s.frame + 1, over := true } } : RM).s.cells.length = 16 := hlf
                        have S13 : Sat W0 w13 (blk pm (rvals { fm with s := { fm.s with frame := fm.s.frame + 1, over := true } } ao cp) 140 :: _) := S14'
                        generalize ({ fm with s := { fm.s with frame := fm.s.frame + 1, over := true } } : RM) = m3 at S13 HE h3
                        have HMB := Lib.hid (rv_back m3 h3 ao cp)
                        have HL3 := Lib.hid (svals_length h3)
                        go_wp2_with (first
                          | (refine wpList_store_sat (off := 0) (n := 20) rfl 46 _ _ rfl (S13.sel [2]) rfl rfl HL3.out (by decide) Tryz.sizeS (svals_one m3.s) ?_; intro w14 S14; rw [zstore] at S14)
                          | (refine wpList_load_part rfl 46 _ rfl (n := 20) rfl (S13.part 0 20) (by rw [HMB.out, HL3.out]) Tryz.underlying46 rfl Tryz.sizeS ?_; rw [HMB.out]))
                        refine bodyPost_ret (results_cell_tmp_sat rfl _ S14 rfl Tryz.underlying46 rfl (by rw [HL3.out]; exact Tryz.sizeS) rfl) rfl ⟨?_, Sat.tail (Sat.tail (Sat.tail (Sat.tail (Sat.tail (Sat.tail S14)))))⟩
                        rw [HF.out]
                        show _ = Ending.returned (.tuple #[.agg (svals (endP cap (if b = true then m'.s else s))).toArray, .int .i64 0])
                        rw [HE.out]
                        rfl
                  · have hz : (fm.s.frame + 1 == cap) = false := by simpa using hcp
                    have hE : endP cap (if b = true then m'.s else s) = ({ fm with s := { fm.s with frame := fm.s.frame + 1 } } : RM).s := hendB.trans (by rw [if_neg hcp]; show _ = (⟨_, _, _, fm.s.over, fm.s.winner⟩ : VS); rw [HFW, HFO])
                    have HE := Lib.hid hE
                    clear hE
                    go_quiet (fail)
                    have S10 := S9.drewN nq
                    generalize w9.drewN nq = w10 at S10 ⊢
                    clear S9 e0 gc
                    have h3 : ({ fm with s := { fm.s with frame := fm.s.frame + 1 } } : RM).s.cells.length = 16 := hlf
                    have S13 : Sat W0 w10 (blk pm (rvals { fm with s := { fm.s with frame := fm.s.frame + 1 } } ao cp) 140 :: _) := S10
                    generalize ({ fm with s := { fm.s with frame := fm.s.frame + 1 } } : RM) = m3 at S13 HE h3
                    have HMB := Lib.hid (rv_back m3 h3 ao cp)
                    have HL3 := Lib.hid (svals_length h3)
                    go_wp2_with (first
                      | (refine wpList_store_sat (off := 0) (n := 20) rfl 46 _ _ rfl (S13.sel [2]) rfl rfl HL3.out (by decide) Tryz.sizeS (svals_one m3.s) ?_; intro w14 S14; rw [zstore] at S14)
                      | (refine wpList_load_part rfl 46 _ rfl (n := 20) rfl (S13.part 0 20) (by rw [HMB.out, HL3.out]) Tryz.underlying46 rfl Tryz.sizeS ?_; rw [HMB.out]))
                    refine bodyPost_ret (results_cell_tmp_sat rfl _ S14 rfl Tryz.underlying46 rfl (by rw [HL3.out]; exact Tryz.sizeS) rfl) rfl ⟨?_, Sat.tail (Sat.tail (Sat.tail (Sat.tail (Sat.tail (Sat.tail S14)))))⟩
                    rw [HF.out]
                    show _ = Ending.returned (.tuple #[.agg (svals (endP cap (if b = true then m'.s else s))).toArray, .int .i64 0])
                    rw [HE.out]
                    rfl
end Go.Proofs.YtjdeeloemhjbhaaGreat
