/-
  vm: the state behind one more frame.
-/
import Derived.Deep.DeepCutAuto
import Derived.Deep.CutBlock
import Derived.Test.YtjdeeloemhjbhaaGreatQVmU

namespace Go.Proofs.YtjdeeloemhjbhaaGreat
open Go.RowKit Go.Sep Go.Vm

theorem list16 {l : List Int} (h : l.length = 16) : ∃ c0 c1 c2 c3 c4 c5 c6 c7 c8 c9 c10 c11 c12 c13 c14 c15, l = [c0, c1, c2, c3, c4, c5, c6, c7, c8, c9, c10, c11, c12, c13, c14, c15] := by
  match l, h with
  | [c0, c1, c2, c3, c4, c5, c6, c7, c8, c9, c10, c11, c12, c13, c14, c15], _ => exact ⟨c0, c1, c2, c3, c4, c5, c6, c7, c8, c9, c10, c11, c12, c13, c14, c15, rfl⟩

theorem built70 (s : VS) (h : s.cells.length = 16) (i0 i1 : Int) : Tryz.prog.built 153 [(0, .agg (svals s).toArray), (1, .agg #[.int .u16 i0, .int .u16 i1])] = some (mvals ⟨s, i0, i1, [], 0, false, false⟩ none 0).toArray := by
  obtain ⟨f, cells, seed, over, winner⟩ := s
  obtain ⟨c0, c1, c2, c3, c4, c5, c6, c7, c8, c9, c10, c11, c12, c13, c14, c15, rfl⟩ := list16 h
  kernel_rfl

theorem runP_ok {code : List (Int × Int)} (hv : ∀ (k : Nat) (x : Int × Int), code[k]? = some x → mayP x.1 x.2 code.length = true) :
    ∀ (fuel : Nat) (m : VM), m.Ok → 0 ≤ m.pc → m.pc ≤ code.length → m.st.length ≤ 32 → (runP code fuel m).2.Ok := by
  intro fuel
  induction fuel with
  | zero =>
    intro m hM h0 hn hs
    by_cases h : m.pc < code.length ∧ m.ended = false
    · rw [runP_dry h]; exact hM
    · rw [runP_stop h]; exact hM
  | succ f ih =>
    intro m hM h0 hn hs
    by_cases h : m.pc < code.length ∧ m.ended = false
    · obtain ⟨k, hk⟩ : ∃ k : Nat, m.pc = (k : Int) := ⟨m.pc.toNat, by omega⟩
      have hkl : k < code.length := by have := h.1; omega
      have hx : code[m.pc.toNat]? = some code[k] := by rw [hk]; exact List.getElem?_eq_getElem hkl
      have hK : Kept code.length { m with pc := m.pc + 1 } (doP code[k].1 code[k].2 { m with pc := m.pc + 1 }) :=
        doP_kept (hv k _ (List.getElem?_eq_getElem hkl)) ⟨hM.s, hM.i0, hM.i1, hM.st, hM.frame⟩ (by show 0 ≤ m.pc + 1; omega) (by show m.pc + 1 ≤ code.length; omega) hs
      cases hb : (doP code[k].1 code[k].2 { m with pc := m.pc + 1 }).bad with
      | true => rw [runP_bad h hx hb]; exact hK.ok
      | false => rw [runP_more h hx hb]; exact ih _ hK.ok hK.pc0 hK.pcn (hK.st hb)
    · rw [runP_stop h]; exact hM

theorem firstBad_all {n : Nat} : ∀ {l : List (Int × Int)}, firstBad n l = l.length → ∀ (k : Nat) (x : Int × Int), l[k]? = some x → mayP x.1 x.2 n = true
  | [], _, k, x, h => by simp at h
  | y :: r, hf, k, x, h => by
    simp only [firstBad] at hf
    by_cases hy : mayP y.1 y.2 n = true
    · rw [if_pos hy, List.length_cons] at hf
      cases k with
      | zero => simp at h; rw [← h]; exact hy
      | succ k => exact firstBad_all (l := r) (by omega) k x (by simpa using h)
    · rw [if_neg hy] at hf; simp at hf
theorem check_ok {code : List (Int × Int)} {cap fuel : Int} (h : checkP code cap fuel = 0) :
    code.length ≤ 256 ∧ (∀ (k : Nat) (x : Int × Int), code[k]? = some x → mayP x.1 x.2 code.length = true) ∧ 1 ≤ cap ∧ cap ≤ 600 ∧ 1 ≤ fuel ∧ fuel ≤ 2000 := by
  unfold checkP at h
  by_cases hc : codeP code = 0
  · rw [if_neg (by rw [hc]; simp)] at h
    have hcf : ¬ (cap < 1 ∨ 600 < cap ∨ fuel < 1 ∨ 2000 < fuel) := by
      intro hh; rw [if_pos hh] at h; cases h
    unfold codeP at hc
    by_cases h1 : 256 < code.length
    · rw [if_pos h1] at hc; cases hc
    · rw [if_neg h1] at hc
      by_cases h2 : firstBad code.length code < code.length
      · rw [if_pos h2] at hc; cases hc
      · have := firstBad_le code.length code
        exact ⟨by omega, firstBad_all (by omega), by omega, by omega, by omega, by omega⟩
  · rw [if_pos hc] at h; exact absurd h hc

def Stepped (W0 : World) (L : List Asn) (r : VS × Int) (e : Ending) (w' : World) : Prop := e = .returned (.tuple #[.agg (svals r.1).toArray, .int .i64 r.2]) ∧ Sat W0 w' L

theorem zstore (xs : List Value) : ([.int .i64 0, .int .i32 0, .int .i32 0, .int .i32 0, .int .i32 0, .int .i32 0, .int .i32 0, .int .i32 0, .int .i32 0, .int .i32 0, .int .i32 0, .int .i32 0, .int .i32 0, .int .i32 0, .int .i32 0, .int .i32 0, .int .i32 0, .int .u32 0, .bool false, .int .i64 0] : List Value).take 0 ++ xs ++ ([.int .i64 0, .int .i32 0, .int .i32 0, .int .i32 0, .int .i32 0, .int .i32 0, .int .i32 0, .int .i32 0, .int .i32 0, .int .i32 0, .int .i32 0, .int .i32 0, .int .i32 0, .int .i32 0, .int .i32 0, .int .i32 0, .int .i32 0, .int .u32 0, .bool false, .int .i64 0] : List Value).drop (0 + 20) = xs := by
  rw [List.take_zero, List.nil_append, show ([.int .i64 0, .int .i32 0, .int .i32 0, .int .i32 0, .int .i32 0, .int .i32 0, .int .i32 0, .int .i32 0, .int .i32 0, .int .i32 0, .int .i32 0, .int .i32 0, .int .i32 0, .int .i32 0, .int .i32 0, .int .i32 0, .int .i32 0, .int .u32 0, .bool false, .int .i64 0] : List Value).drop (0 + 20) = [] from rfl, List.append_nil]
theorem mv_back (m : VM) (h : m.s.cells.length = 16) (ao : Option Addr) (cap : Nat) : ((mvals m ao cap).drop 0).take 20 = svals m.s := by
  unfold mvals svals
  rw [List.drop_zero]
  rw [show (20 : Nat) = 19 + 1 from rfl, List.take_succ_cons, List.take_append, List.length_map, h, List.take_of_length_le (by rw [List.length_map]; omega)]
  rfl
theorem mv_over (m : VM) (h : m.s.cells.length = 16) (ao : Option Addr) (cap : Nat) (s : VS) : (mvals m ao cap).take 0 ++ svals s ++ (mvals m ao cap).drop (0 + 20) = mvals { m with s := s } ao cap := by
  unfold mvals svals
  rw [List.take_zero, List.nil_append, show 0 + 20 = 19 + 1 from rfl, List.drop_succ_cons, List.drop_append, List.length_map, h, List.drop_of_length_le (by rw [List.length_map]; omega)]
  simp

theorem st_on {W0 w : World} {L : List Asn} {p : Nat} {s : VS} (S : Sat W0 w (blk p (svals s) 46 :: L)) : Sat W0 (w.setCell ⟨p, 0, none⟩ (.int .i64 (s.frame + 1))) (blk p (svals { s with frame := s.frame + 1 }) 46 :: L) :=
  S.setCell (k := 0) (v := .int .i64 (s.frame + 1)) 0 rfl
theorem st_ov {W0 w : World} {L : List Asn} {p : Nat} {s : VS} (h : s.cells.length = 16) (S : Sat W0 w (blk p (svals s) 46 :: L)) :
    Sat W0 ((w.setCell ⟨p, 0, none⟩ (.int .i64 (s.frame + 1))).setCell ⟨p, 18, none⟩ (.bool true)) (blk p (svals { s with frame := s.frame + 1, over := true }) 46 :: L) := by
  have q := (S.setCell (k := 0) (v := .int .i64 (s.frame + 1)) 0 rfl).setCell (k := 18) (v := .bool true) 0 rfl
  have q2 : ((svals s).set 0 (.int .i64 (s.frame + 1))).set 18 (.bool true) = svals { s with frame := s.frame + 1, over := true } := by
    rw [svals_setFrame, svals_setOver (by exact h)]
  rw [← q2]
  exact q
theorem st_wn {W0 w : World} {L : List Asn} {p : Nat} {s : VS} (h : s.cells.length = 16) (S : Sat W0 w (blk p (svals s) 46 :: L)) (wv : Int) :
    Sat W0 (w.setCell ⟨p, 19, none⟩ (.int .i64 wv)) (blk p (svals { s with winner := wv }) 46 :: L) := by
  rw [← svals_setWinner h]
  exact S.setCell (k := 19) (v := .int .i64 wv) 0 rfl
theorem st_win {W0 w : World} {L : List Asn} {p : Nat} {s : VS} (h : s.cells.length = 16) (S : Sat W0 w (blk p (svals s) 46 :: L)) (wv : Int) :
    Sat W0 (((w.setCell ⟨p, 0, none⟩ (.int .i64 (s.frame + 1))).setCell ⟨p, 18, none⟩ (.bool true)).setCell ⟨p, 19, none⟩ (.int .i64 wv)) (blk p (svals { s with frame := s.frame + 1, over := true, winner := wv }) 46 :: L) := by
  have q := ((S.setCell (k := 0) (v := .int .i64 (s.frame + 1)) 0 rfl).setCell (k := 18) (v := .bool true) 0 rfl).setCell (k := 19) (v := .int .i64 wv) 0 rfl
  have q2 : (((svals s).set 0 (.int .i64 (s.frame + 1))).set 18 (.bool true)).set 19 (.int .i64 wv) = svals { s with frame := s.frame + 1, over := true, winner := wv } := by
    rw [svals_setFrame, svals_setOver (by exact h), svals_setWinner (by exact h)]
  rw [← q2]
  exact q

set_option maxRecDepth 100000 in
set_option maxHeartbeats 16000000 in
theorem vStep_any {W0 w : World} {L : List Asn} (S : Sat W0 w L) {a : Option Addr} {n c : Nat} {code : List (Int × Int)} (hR : ∀ w', Sat W0 w' L → Rd w' a (insv code)) (hn : code.length = n) (hnm : n ≤ maxLen) (cap fuel : Int) {s : VS} (hs : s.Ok)
    (i0 i1 : Int) (hi0 : 0 ≤ i0 ∧ i0 < 65536) (hi1 : 0 ≤ i1 ∧ i1 < 65536) :
    Calls Tryz.prog 69 #[.agg #[.slice a n c, .int .i64 cap, .int .i64 fuel], .agg (svals s).toArray, .agg #[.int .u16 i0, .int .u16 i1]] w (Stepped W0 L (stepP code cap fuel s i0 i1)) := by
  have S1 := (((S.alloc [.slice a n c, .int .i64 cap, .int .i64 fuel] 24).alloc (svals s) 46).alloc [.int .u16 i0, .int .u16 i1] 43).alloc [.int .i64 0, .int .i32 0, .int .i32 0, .int .i32 0, .int .i32 0, .int .i32 0, .int .i32 0, .int .i32 0, .int .i32 0, .int .i32 0, .int .i32 0, .int .i32 0, .int .i32 0, .int .i32 0, .int .i32 0, .int .i32 0, .int .i32 0, .int .u32 0, .bool false, .int .i64 0] 46
  simp only [World.size_alloc] at S1
  have hR1 : ∀ w', Sat W0 w' (blk (w.heap.size + 1 + 1 + 1) [.int .i64 0, .int .i32 0, .int .i32 0, .int .i32 0, .int .i32 0, .int .i32 0, .int .i32 0, .int .i32 0, .int .i32 0, .int .i32 0, .int .i32 0, .int .i32 0, .int .i32 0, .int .i32 0, .int .i32 0, .int .i32 0, .int .i32 0, .int .u32 0, .bool false, .int .i64 0] 46 :: blk (w.heap.size + 1 + 1) [.int .u16 i0, .int .u16 i1] 43 :: blk (w.heap.size + 1) (svals s) 46 :: blk w.heap.size [.slice a n c, .int .i64 cap, .int .i64 fuel] 24 :: L) → Rd w' a (insv code) :=
    fun w' h => hR w' (Sat.tail (Sat.tail (Sat.tail (Sat.tail h))))
  have HN := Lib.hid hn
  have HRR := Lib.hid hR
  clear hn hR
  cases hchk : (checkP code cap fuel != 0) with
  | true =>
    have hf : stepP code cap fuel s i0 i1 = (VS.zero, checkP code cap fuel) := by unfold stepP; rw [if_pos (by simpa using hchk)]
    have HF := Lib.hid hf
    obtain ⟨ck, hck⟩ : ∃ ck, checkP code cap fuel = ck := ⟨_, rfl⟩
    rw [hck] at hchk HF
    have HC := Lib.hid hck
    clear hck hf
    go_enter Tryz.func69, Tryz.ntmps69
    go_wp2_with (first
      | (refine wpList_store_sat (n := 20) rfl 46 _ _ rfl S2 rfl rfl rfl (by decide) Tryz.sizeS zero_one ?_; intro w4 S4)
      | (go_at_call 26; refine (vCheck_any S1 hR1 HN.out hnm cap fuel).mono ?_; rintro e w2 ⟨rfl, S2⟩; rw [HC.out]; have d1 := S2.cell 3 rfl 1; have d2 := (st_at hs.len (S2.sel [2])).seed; have d3 := (st_at hs.len (S2.sel [2])).over; have d4 := (st_at hs.len (S2.sel [2])).frame; simp only [List.getElem?_cons_succ, List.getElem?_cons_zero] at d1))
    refine bodyPost_ret (results_cell_tmp_sat rfl _ S4 rfl Tryz.underlying46 rfl Tryz.sizeS rfl) rfl ⟨?_, Sat.tail (Sat.tail (Sat.tail (Sat.tail S4)))⟩
    rw [HF.out]; rfl
  | false =>
    have hck : checkP code cap fuel = 0 := by simpa using hchk
    obtain ⟨hl, hval, hcap1, hcap2, hfu1, hfu2⟩ := check_ok hck
    have HC := Lib.hid hck
    clear hchk
    have hnl : stepP code cap fuel s i0 i1 = if isP s = false ∨ s.seed = 0 then (VS.zero, 1) else if s.over = true ∨ cap ≤ s.frame then (VS.zero, 12)
        else (endP cap (if (runP code fuel.toNat ⟨s, i0, i1, [], 0, false, false⟩).1 then (runP code fuel.toNat ⟨s, i0, i1, [], 0, false, false⟩).2.s else s), 0) := by
      unfold stepP; rw [if_neg (by rw [hck]; simp)]
    cases hi : isP s with
    | false =>
      have HF : Hid (stepP code cap fuel s i0 i1 = (VS.zero, 1)) := by show _ = _; rw [hnl, if_pos (.inl hi)]
      have HI := Lib.hid hi
      clear hck hnl hval hi
      go_enter Tryz.func69, Tryz.ntmps69
      go_wp2_with (first
        | (refine wpList_store_sat (n := 20) rfl 46 _ _ rfl S3 rfl rfl rfl (by decide) Tryz.sizeS zero_one ?_; intro w4 S4)
        | (go_at_call 63; refine (isState_any S2 hs.len).mono ?_; rintro e w3 ⟨rfl, S3⟩; rw [HI.out]; have d1 := S3.cell 3 rfl 1; have d2 := (st_at hs.len (S3.sel [2])).seed; have d3 := (st_at hs.len (S3.sel [2])).over; have d4 := (st_at hs.len (S3.sel [2])).frame; simp only [List.getElem?_cons_succ, List.getElem?_cons_zero] at d1)
        | (refine wpList_load_part rfl 46 _ rfl (n := 20) rfl ((S2.sel [2]).part 0 20) (by rw [List.length_take, List.length_drop, svals_length hs.len]; rfl) Tryz.underlying46 rfl Tryz.sizeS ?_; rw [List.drop_zero, List.take_of_length_le (by rw [svals_length hs.len]; omega)])
        | (go_at_call 26; refine (vCheck_any S1 hR1 HN.out hnm cap fuel).mono ?_; rintro e w2 ⟨rfl, S2⟩; rw [HC.out]; have d1 := S2.cell 3 rfl 1; have d2 := (st_at hs.len (S2.sel [2])).seed; have d3 := (st_at hs.len (S2.sel [2])).over; have d4 := (st_at hs.len (S2.sel [2])).frame; simp only [List.getElem?_cons_succ, List.getElem?_cons_zero] at d1))
      refine bodyPost_ret (results_cell_tmp_sat rfl _ S4 rfl Tryz.underlying46 rfl Tryz.sizeS rfl) rfl ⟨?_, Sat.tail (Sat.tail (Sat.tail (Sat.tail S4)))⟩
      rw [HF.out]; rfl
    | true =>
      have HI := Lib.hid hi
      by_cases hsd : s.seed = 0
      · have HF : Hid (stepP code cap fuel s i0 i1 = (VS.zero, 1)) := by show _ = _; rw [hnl, if_pos (.inr hsd)]
        have hsd' : (s.seed == 0) = true := by simpa using hsd
        clear hck hnl hval hi hsd
        go_enter Tryz.func69, Tryz.ntmps69
        go_wp2_with (first
          | (refine wpList_store_sat (n := 20) rfl 46 _ _ rfl S3 rfl rfl rfl (by decide) Tryz.sizeS zero_one ?_; intro w4 S4)
          | (go_at_call 63; refine (isState_any S2 hs.len).mono ?_; rintro e w3 ⟨rfl, S3⟩; rw [HI.out]; have d1 := S3.cell 3 rfl 1; have d2 := (st_at hs.len (S3.sel [2])).seed; have d3 := (st_at hs.len (S3.sel [2])).over; have d4 := (st_at hs.len (S3.sel [2])).frame; simp only [List.getElem?_cons_succ, List.getElem?_cons_zero] at d1)
          | (refine wpList_load_part rfl 46 _ rfl (n := 20) rfl ((S2.sel [2]).part 0 20) (by rw [List.length_take, List.length_drop, svals_length hs.len]; rfl) Tryz.underlying46 rfl Tryz.sizeS ?_; rw [List.drop_zero, List.take_of_length_le (by rw [svals_length hs.len]; omega)])
          | (go_at_call 26; refine (vCheck_any S1 hR1 HN.out hnm cap fuel).mono ?_; rintro e w2 ⟨rfl, S2⟩; rw [HC.out]; have d1 := S2.cell 3 rfl 1; have d2 := (st_at hs.len (S2.sel [2])).seed; have d3 := (st_at hs.len (S2.sel [2])).over; have d4 := (st_at hs.len (S2.sel [2])).frame; simp only [List.getElem?_cons_succ, List.getElem?_cons_zero] at d1))
        refine bodyPost_ret (results_cell_tmp_sat rfl _ S4 rfl Tryz.underlying46 rfl Tryz.sizeS rfl) rfl ⟨?_, Sat.tail (Sat.tail (Sat.tail (Sat.tail S4)))⟩
        rw [HF.out]; rfl
      · have hsd' : (s.seed == 0) = false := by simpa using hsd
        rw [if_neg (by rw [hi]; simpa using hsd)] at hnl
        cases hov : s.over with
        | true =>
          have HF : Hid (stepP code cap fuel s i0 i1 = (VS.zero, 12)) := by show _ = _; rw [hnl, if_pos (.inl hov)]
          have HOV := Lib.hid hov
          clear hck hnl hval hi hsd hov
          go_enter Tryz.func69, Tryz.ntmps69
          go_wp2_with (first
            | (refine wpList_store_sat (n := 20) rfl 46 _ _ rfl S3 rfl rfl rfl (by decide) Tryz.sizeS zero_one ?_; intro w4 S4)
            | (go_at_call 63; refine (isState_any S2 hs.len).mono ?_; rintro e w3 ⟨rfl, S3⟩; rw [HI.out];  have d1 := S3.cell 3 rfl 1; have d2 := (st_at hs.len (S3.sel [2])).seed; have d3 := (st_at hs.len (S3.sel [2])).over; rw [HOV.out] at d3; have d4 := (st_at hs.len (S3.sel [2])).frame; simp only [List.getElem?_cons_succ, List.getElem?_cons_zero] at d1)
            | (refine wpList_load_part rfl 46 _ rfl (n := 20) rfl ((S2.sel [2]).part 0 20) (by rw [List.length_take, List.length_drop, svals_length hs.len]; rfl) Tryz.underlying46 rfl Tryz.sizeS ?_; rw [List.drop_zero, List.take_of_length_le (by rw [svals_length hs.len]; omega)])
            | (go_at_call 26; refine (vCheck_any S1 hR1 HN.out hnm cap fuel).mono ?_; rintro e w2 ⟨rfl, S2⟩; rw [HC.out]; have d1 := S2.cell 3 rfl 1; have d2 := (st_at hs.len (S2.sel [2])).seed; have d3 := (st_at hs.len (S2.sel [2])).over; have d4 := (st_at hs.len (S2.sel [2])).frame; simp only [List.getElem?_cons_succ, List.getElem?_cons_zero] at d1))
          refine bodyPost_ret (results_cell_tmp_sat rfl _ S4 rfl Tryz.underlying46 rfl Tryz.sizeS rfl) rfl ⟨?_, Sat.tail (Sat.tail (Sat.tail (Sat.tail S4)))⟩
          rw [HF.out]; rfl
        | false =>
          have HOV := Lib.hid hov
          by_cases hcf : cap ≤ s.frame
          · have HF : Hid (stepP code cap fuel s i0 i1 = (VS.zero, 12)) := by show _ = _; rw [hnl, if_pos (.inr hcf)]
            clear hck hnl hval hi hsd hov
            go_enter Tryz.func69, Tryz.ntmps69
            go_wp2_with (first
              | (refine wpList_store_sat (n := 20) rfl 46 _ _ rfl S3 rfl rfl rfl (by decide) Tryz.sizeS zero_one ?_; intro w4 S4)
              | (go_at_call 63; refine (isState_any S2 hs.len).mono ?_; rintro e w3 ⟨rfl, S3⟩; rw [HI.out]; have d1 := S3.cell 3 rfl 1; have d2 := (st_at hs.len (S3.sel [2])).seed; have d3 := (st_at hs.len (S3.sel [2])).over; rw [HOV.out] at d3; have d4 := (st_at hs.len (S3.sel [2])).frame; simp only [List.getElem?_cons_succ, List.getElem?_cons_zero] at d1)
              | (refine wpList_load_part rfl 46 _ rfl (n := 20) rfl ((S2.sel [2]).part 0 20) (by rw [List.length_take, List.length_drop, svals_length hs.len]; rfl) Tryz.underlying46 rfl Tryz.sizeS ?_; rw [List.drop_zero, List.take_of_length_le (by rw [svals_length hs.len]; omega)])
              | (go_at_call 26; refine (vCheck_any S1 hR1 HN.out hnm cap fuel).mono ?_; rintro e w2 ⟨rfl, S2⟩; rw [HC.out]; have d1 := S2.cell 3 rfl 1; have d2 := (st_at hs.len (S2.sel [2])).seed; have d3 := (st_at hs.len (S2.sel [2])).over; have d4 := (st_at hs.len (S2.sel [2])).frame; simp only [List.getElem?_cons_succ, List.getElem?_cons_zero] at d1))
            refine bodyPost_ret (results_cell_tmp_sat rfl _ S4 rfl Tryz.underlying46 rfl Tryz.sizeS rfl) rfl ⟨?_, Sat.tail (Sat.tail (Sat.tail (Sat.tail S4)))⟩
            rw [HF.out]; rfl
          · rw [if_neg (by rw [hov]; simpa using hcf)] at hnl
            obtain ⟨fu, rfl⟩ : ∃ fu : Nat, fuel = (fu : Int) := ⟨fuel.toNat, by omega⟩
            rw [Int.toNat_natCast] at hnl
            obtain ⟨b, m', hr⟩ : ∃ b m', runP code fu ⟨s, i0, i1, [], 0, false, false⟩ = (b, m') := ⟨_, _, rfl⟩
            have hfr : 0 ≤ s.frame ∧ s.frame ≤ 600 := by
              have h1 := hi
              unfold isP at h1
              simp only [Bool.and_eq_true, decide_eq_true_eq] at h1
              omega
            have hM0 : (⟨s, i0, i1, [], 0, false, false⟩ : VM).Ok := ⟨hs, hi0, hi1, fun c hc => by simp at hc, hfr⟩
            have hM' : m'.Ok := by
              have h1 := runP_ok (code := code) hval fu ⟨s, i0, i1, [], 0, false, false⟩ hM0 (Int.le_refl _) (by show (0 : Int) ≤ code.length; omega) (Nat.zero_le _)
              rw [hr] at h1; exact h1
            rw [hr] at hnl
            have HF := Lib.hid hnl
            have HRN := Lib.hid hr
            have HV : Hid (∀ (k : Nat) (x : Int × Int), code[k]? = some x → mayP x.1 x.2 n = true) := by intro k x hx; have := hval k x hx; rw [HN.out] at this; exact this
            have hb70 := Lib.hid (built70 s hs.len i0 i1)
            have hlt : s.frame < cap := by omega
            have hd : decide (cap ≤ s.frame) = false := decide_eq_false hcf
            have hn256 : n ≤ 256 := by rw [← HN.out]; exact hl
            clear hck hnl hval hi hsd hov hr hl
            go_enter Tryz.func69, Tryz.ntmps69
            go_upto_if 44 with (first
              | (go_at_call 81; refine (run_any S5 hM0 (Nat.zero_le _) rfl (Int.le_refl _) (n := n) (by show (0 : Int) ≤ n; omega) (fun w' h => HRR.out w' (Sat.tail (Sat.tail (Sat.tail (Sat.tail h))))) HN.out hn256 HV.out cap fu (by omega)).mono ?_; unfold Ran; rintro e w5 ⟨rfl, S6⟩; rw [HRN.out] at S6 ⊢)
              | (refine wpList_build_to (cells := (mvals ⟨s, i0, i1, [], 0, false, false⟩ none 0).toArray) rfl 153 _ rfl (Eq.trans (congrArg (Tryz.prog.built 153) (show _ = [(0, Value.agg (svals s).toArray), (1, Value.agg #[.int .u16 i0, .int .u16 i1])] by kernel_rfl)) hb70.out) ?_; have S4 := S3.alloc (mvals ⟨s, i0, i1, [], 0, false, false⟩ none 0) 153; have e0 := S4.cell 4 rfl 0; have e1 := S4.cell 4 rfl 1; have e2 := S4.cell 4 rfl 2; simp only [List.getElem?_cons_succ, List.getElem?_cons_zero] at e0 e1 e2; have S5 := Mc_open.2 ⟨none, 0, Sat.swap (Sat.own_none.2 ⟨rfl, rfl, rfl, S4⟩)⟩)
              | (refine wpList_load_part rfl 46 _ rfl (n := 20) rfl ((S3.sel [2]).part 0 20) (by rw [List.length_take, List.length_drop, svals_length hs.len]; rfl) Tryz.underlying46 rfl Tryz.sizeS ?_; rw [List.drop_zero, List.take_of_length_le (by rw [svals_length hs.len]; omega)])
              | (go_at_call 63; refine (isState_any S2 hs.len).mono ?_; rintro e w3 ⟨rfl, S3⟩; rw [HI.out]; have d1 := S3.cell 3 rfl 1; have d2 := (st_at hs.len (S3.sel [2])).seed; have d3 := (st_at hs.len (S3.sel [2])).over; rw [HOV.out] at d3; have d4 := (st_at hs.len (S3.sel [2])).frame; have d5 := S3.cell 1 rfl 0; have d6 := S3.cell 1 rfl 1; simp only [List.getElem?_cons_succ, List.getElem?_cons_zero] at d5 d6; simp only [List.getElem?_cons_succ, List.getElem?_cons_zero] at d1)
              | (refine wpList_load_part rfl 46 _ rfl (n := 20) rfl ((S2.sel [2]).part 0 20) (by rw [List.length_take, List.length_drop, svals_length hs.len]; rfl) Tryz.underlying46 rfl Tryz.sizeS ?_; rw [List.drop_zero, List.take_of_length_le (by rw [svals_length hs.len]; omega)])
              | (go_at_call 26; refine (vCheck_any S1 hR1 HN.out hnm cap (fu : Int)).mono ?_; rintro e w2 ⟨rfl, S2⟩; rw [HC.out]; have d1 := S2.cell 3 rfl 1; have d2 := (st_at hs.len (S2.sel [2])).seed; have d3 := (st_at hs.len (S2.sel [2])).over; have d4 := (st_at hs.len (S2.sel [2])).frame; simp only [List.getElem?_cons_succ, List.getElem?_cons_zero] at d1))
            clear S1 hR1 hb70 hcf hd
            have hsF : (if b = true then m'.s else s).Ok ∧ 0 ≤ (if b = true then m'.s else s).frame ∧ (if b = true then m'.s else s).frame ≤ 600 := by
              cases b
              · exact ⟨hs, hfr⟩
              · exact ⟨hM'.s, hM'.frame⟩
            obtain ⟨sF, hsf⟩ : ∃ sF, (if b = true then m'.s else s) = sF := ⟨_, rfl⟩
            rw [hsf] at hsF HF
            have HSF := Lib.hid hsf
            clear hsf
            generalize w3.heap.size = pm at S6 ⊢
            generalize w.heap.size = pg at S6 ⊢
            go_cut [45] (fun _ wx => Sat W0 wx (Mc pm { m' with s := sF } :: blk (pg + 1 + 1 + 1) [.int .i64 0, .int .i32 0, .int .i32 0, .int .i32 0, .int .i32 0, .int .i32 0, .int .i32 0, .int .i32 0, .int .i32 0, .int .i32 0, .int .i32 0, .int .i32 0, .int .i32 0, .int .i32 0, .int .i32 0, .int .i32 0, .int .i32 0, .int .u32 0, .bool false, .int .i64 0] 46 :: blk (pg + 1 + 1) [.int .u16 i0, .int .u16 i1] 43 :: blk (pg + 1) (svals s) 46 :: blk pg [.slice a n c, .int .i64 cap, .int .i64 (fu : Int)] 24 :: L))
            case first =>
              cases b with
              | true =>
                have he : (errP (true, m') != 0) = false := rfl
                have hq : m'.s = sF := HSF.out
                subst hq
                go_wp2_with fail
                go_meet
                exact S6
              | false =>
                have he : (errP (false, m') != 0) = true := by
                  unfold errP
                  cases m'.bad <;> rfl
                have hq : s = sF := HSF.out
                subst hq
                obtain ⟨ao, cap', S7⟩ := Mc_open.1 S6
                have hl26 := mvals_length (m := m') (ao := ao) (cap := cap') hM'.s.len
                go_wp2_with (first
                  | (refine wpList_load_part rfl 46 _ rfl (n := 20) rfl ((S6.sel [3]).part 0 20) (by rw [List.length_take, List.length_drop, svals_length hs.len]; rfl) Tryz.underlying46 rfl Tryz.sizeS ?_; rw [List.drop_zero, List.take_of_length_le (by rw [svals_length hs.len]; omega)])
                  | (refine wpList_store_sat (n := 20) rfl 46 _ _ rfl S7 rfl rfl (svals_length hs.len) (by rw [hl26]; omega) Tryz.sizeS (svals_one s) ?_; intro w6 S8; rw [mv_over m' hM'.s.len] at S8))
                go_meet
                exact Mc_open.2 ⟨ao, cap', S8⟩
            case rest =>
              have S9 := hcut
              obtain ⟨ao, cap', S10⟩ := Mc_open.1 S9
              obtain ⟨hsF, hF0, hF1⟩ := hsF
              have hlF := hsF.len
              have hmb := mv_back { m' with s := sF } hlF ao cap'
              have hstore : (svals s).take 0 ++ svals sF ++ (svals s).drop (0 + 20) = svals sF := by
                rw [List.take_zero, List.nil_append, List.drop_of_length_le (by rw [svals_length hs.len]; omega), List.append_nil]
              have HMB := Lib.hid hmb
              have HST := Lib.hid hstore
              clear hmb hstore S6 hcut hM0
              by_cases hlast : sF.frame + 1 < cap
              · have S0 : True := trivial
                have hE : endP cap sF = { sF with frame := sF.frame + 1 } := by
                  unfold endP
                  rw [if_neg (by simp only; omega)]
                have HE := Lib.hid hE
                have hlE : (svals ({ sF with frame := sF.frame + 1 })).length = 20 := svals_length (s := { sF with frame := sF.frame + 1 }) hlF
                have h1E := svals_one ({ sF with frame := sF.frame + 1 })
                clear hE S0
                go_wp2_with (first
                  | (refine wpList_store_sat (off := 0) (n := 20) rfl 46 _ _ rfl (SF.sel [3]) rfl rfl hlE (by decide) Tryz.sizeS h1E ?_; intro w14 S14; rw [zstore] at S14)
                  | (refine wpList_load_part rfl 46 _ rfl (n := 20) rfl (SF.part 0 20) (by rw [List.length_take, List.length_drop, hlE]; rfl) Tryz.underlying46 rfl Tryz.sizeS ?_; rw [List.drop_zero, List.take_of_length_le (by rw [hlE]; omega)])
                  | (refine wpList_load_part rfl 46 _ rfl (n := 20) rfl (S10.part 0 20) (by rw [HMB.out, svals_length hlF]) Tryz.underlying46 rfl Tryz.sizeS ?_; rw [HMB.out])
                  | (refine wpList_store_sat (n := 20) rfl 46 _ _ rfl (S10.sel [4]) rfl rfl (svals_length hlF) (by rw [svals_length hs.len]; omega) Tryz.sizeS (svals_one sF) ?_; intro w11 S12; rw [HST.out] at S12; have hA := st_at hlF S12; have e0 := hA.frame; have e18 := hA.over; have e19 := hA.winner; have f0 := hA.free 0; have f18 := hA.free 18; have f19 := hA.free 19; have a0 := hA.cells 0 (by omega); have a1 := hA.cells 1 (by omega); have ec := S12.cell 5 rfl 1; simp only [List.getElem?_cons_succ, List.getElem?_cons_zero] at ec; clear hA; have SF := st_on S12))
                refine bodyPost_ret (results_cell_tmp_sat rfl _ S14 rfl Tryz.underlying46 rfl (by rw [hlE]; exact Tryz.sizeS) rfl) rfl ⟨?_, Sat.tail (Sat.tail (Sat.tail (Sat.tail (Sat.tail (Sat.tail S14)))))⟩
                rw [HF.out]
                show _ = Ending.returned (.tuple #[.agg (svals (endP cap sF)).toArray, .int .i64 0])
                rw [HE.out]
                rfl
              · have hge : cap ≤ sF.frame + 1 := by omega
                cases hov : sF.over with
                | true =>
                  have HOV2 := Lib.hid hov
                  have hE : endP cap sF = { sF with frame := sF.frame + 1 } := by
                    unfold endP
                    rw [if_neg (by simp only [hov]; simp)]
                  have HE := Lib.hid hE
                  have hlE : (svals ({ sF with frame := sF.frame + 1 })).length = 20 := svals_length (s := { sF with frame := sF.frame + 1 }) hlF
                  have h1E := svals_one ({ sF with frame := sF.frame + 1 })
                  clear hE hov hlast
                  go_wp2_with (first
                    | (refine wpList_store_sat (off := 0) (n := 20) rfl 46 _ _ rfl (SF.sel [3]) rfl rfl hlE (by decide) Tryz.sizeS h1E ?_; intro w14 S14; rw [zstore] at S14)
                    | (refine wpList_load_part rfl 46 _ rfl (n := 20) rfl (SF.part 0 20) (by rw [List.length_take, List.length_drop, hlE]; rfl) Tryz.underlying46 rfl Tryz.sizeS ?_; rw [List.drop_zero, List.take_of_length_le (by rw [hlE]; omega)])
                    | (refine wpList_load_part rfl 46 _ rfl (n := 20) rfl (S10.part 0 20) (by rw [HMB.out, svals_length hlF]) Tryz.underlying46 rfl Tryz.sizeS ?_; rw [HMB.out])
                    | (refine wpList_store_sat (n := 20) rfl 46 _ _ rfl (S10.sel [4]) rfl rfl (svals_length hlF) (by rw [svals_length hs.len]; omega) Tryz.sizeS (svals_one sF) ?_; intro w11 S12; rw [HST.out] at S12; have hA := st_at hlF S12; have e0 := hA.frame; have e18 := hA.over; have e19 := hA.winner; have f0 := hA.free 0; have f18 := hA.free 18; have f19 := hA.free 19; have a0 := hA.cells 0 (by omega); have a1 := hA.cells 1 (by omega); have ec := S12.cell 5 rfl 1; simp only [List.getElem?_cons_succ, List.getElem?_cons_zero] at ec; clear hA; rw [HOV2.out] at e18; have SF := st_on S12))
                  refine bodyPost_ret (results_cell_tmp_sat rfl _ S14 rfl Tryz.underlying46 rfl (by rw [hlE]; exact Tryz.sizeS) rfl) rfl ⟨?_, Sat.tail (Sat.tail (Sat.tail (Sat.tail (Sat.tail (Sat.tail S14)))))⟩
                  rw [HF.out]
                  show _ = Ending.returned (.tuple #[.agg (svals (endP cap sF)).toArray, .int .i64 0])
                  rw [HE.out]
                  rfl
                | false =>
                  have HOV2 := Lib.hid hov
                  obtain ⟨x0, hx0⟩ : ∃ x0, sF.cells[0]?.getD 0 = x0 := ⟨_, rfl⟩
                  obtain ⟨x1, hx1⟩ : ∃ x1, sF.cells[1]?.getD 0 = x1 := ⟨_, rfl⟩
                  have HX0 := Lib.hid hx0
                  have HX1 := Lib.hid hx1
                  have hendp : ∀ wv : Int, (if x1 < x0 then (0 : Int) else if x0 < x1 then 1 else 2) = wv → endP cap sF = { sF with frame := sF.frame + 1, over := true, winner := wv } := by
                    intro wv hwv
                    unfold endP
                    rw [if_pos ⟨hge, hov⟩]
                    simp only
                    rw [hx0, hx1, hwv]
                  clear hx0 hx1
                  rcases Int.lt_trichotomy x1 x0 with h1 | h1 | h1
                  · have hE : endP cap sF = { sF with frame := sF.frame + 1, over := true, winner := 0 } := hendp 0 (by rw [if_pos h1])
                    have HE := Lib.hid hE
                    have hlE : (svals ({ sF with frame := sF.frame + 1, over := true, winner := 0 })).length = 20 := svals_length (s := { sF with frame := sF.frame + 1, over := true, winner := 0 }) hlF
                    have h1E := svals_one ({ sF with frame := sF.frame + 1, over := true, winner := 0 })
                    clear hE hov hlast hendp
                    go_upto_region 16 with (first
                      | (refine wpList_load_part rfl 46 _ rfl (n := 20) rfl (S10.part 0 20) (by rw [HMB.out, svals_length hlF]) Tryz.underlying46 rfl Tryz.sizeS ?_; rw [HMB.out])
                      | (refine wpList_store_sat (n := 20) rfl 46 _ _ rfl (S10.sel [4]) rfl rfl (svals_length hlF) (by rw [svals_length hs.len]; omega) Tryz.sizeS (svals_one sF) ?_; intro w11 S12; rw [HST.out] at S12; have hA := st_at hlF S12; have e0 := hA.frame; have e18 := hA.over; rw [HOV2.out] at e18; have f0 := hA.free 0; have f18 := hA.free 18; have ec := S12.cell 5 rfl 1; simp only [List.getElem?_cons_succ, List.getElem?_cons_zero] at ec; clear hA))
                    have S13 := st_ov hlF S12
                    generalize (w11.setCell ⟨pg + 1, 0, none⟩ (.int .i64 (sF.frame + 1))).setCell ⟨pg + 1, 18, none⟩ (.bool true) = w13 at S13 ⊢
                    clear S12 e0 e18 f0 f18 ec
                    have hA := st_at (s := { sF with frame := sF.frame + 1, over := true }) hlF S13
                    have e19 := hA.winner
                    have f19 := hA.free 19
                    have a0 := hA.cells 0 (by omega)
                    have a1 := hA.cells 1 (by omega)
                    simp only at a0 a1 e19
                    rw [HX0.out] at a0
                    rw [HX1.out] at a1
                    clear hA
                    have SF := st_wn (s := { sF with frame := sF.frame + 1, over := true }) hlF S13 0
                    go_wp2_with (first
                      | (refine wpList_store_sat (off := 0) (n := 20) rfl 46 _ _ rfl (SF.sel [3]) rfl rfl hlE (by decide) Tryz.sizeS h1E ?_; intro w14 S14; rw [zstore] at S14)
                      | (refine wpList_load_part rfl 46 _ rfl (n := 20) rfl (SF.part 0 20) (by rw [List.length_take, List.length_drop, hlE]; rfl) Tryz.underlying46 rfl Tryz.sizeS ?_; rw [List.drop_zero, List.take_of_length_le (by rw [hlE]; omega)]))
                    refine bodyPost_ret (results_cell_tmp_sat rfl _ S14 rfl Tryz.underlying46 rfl (by rw [hlE]; exact Tryz.sizeS) rfl) rfl ⟨?_, Sat.tail (Sat.tail (Sat.tail (Sat.tail (Sat.tail (Sat.tail S14)))))⟩
                    rw [HF.out]
                    show _ = Ending.returned (.tuple #[.agg (svals (endP cap sF)).toArray, .int .i64 0])
                    rw [HE.out]
                    rfl
                  · subst h1
                    have hE : endP cap sF = { sF with frame := sF.frame + 1, over := true, winner := 2 } := hendp 2 (by rw [if_neg (by omega), if_neg (by omega)])
                    have HE := Lib.hid hE
                    have hlE : (svals ({ sF with frame := sF.frame + 1, over := true, winner := 2 })).length = 20 := svals_length (s := { sF with frame := sF.frame + 1, over := true, winner := 2 }) hlF
                    have h1E := svals_one ({ sF with frame := sF.frame + 1, over := true, winner := 2 })
                    clear hE hov hlast hendp
                    go_upto_region 16 with (first
                      | (refine wpList_load_part rfl 46 _ rfl (n := 20) rfl (S10.part 0 20) (by rw [HMB.out, svals_length hlF]) Tryz.underlying46 rfl Tryz.sizeS ?_; rw [HMB.out])
                      | (refine wpList_store_sat (n := 20) rfl 46 _ _ rfl (S10.sel [4]) rfl rfl (svals_length hlF) (by rw [svals_length hs.len]; omega) Tryz.sizeS (svals_one sF) ?_; intro w11 S12; rw [HST.out] at S12; have hA := st_at hlF S12; have e0 := hA.frame; have e18 := hA.over; rw [HOV2.out] at e18; have f0 := hA.free 0; have f18 := hA.free 18; have ec := S12.cell 5 rfl 1; simp only [List.getElem?_cons_succ, List.getElem?_cons_zero] at ec; clear hA))
                    have S13 := st_ov hlF S12
                    generalize (w11.setCell ⟨pg + 1, 0, none⟩ (.int .i64 (sF.frame + 1))).setCell ⟨pg + 1, 18, none⟩ (.bool true) = w13 at S13 ⊢
                    clear S12 e0 e18 f0 f18 ec
                    have hA := st_at (s := { sF with frame := sF.frame + 1, over := true }) hlF S13
                    have e19 := hA.winner
                    have f19 := hA.free 19
                    have a0 := hA.cells 0 (by omega)
                    have a1 := hA.cells 1 (by omega)
                    simp only at a0 a1 e19
                    rw [HX0.out] at a0
                    rw [HX1.out] at a1
                    clear hA
                    have SF := st_wn (s := { sF with frame := sF.frame + 1, over := true }) hlF S13 2
                    go_wp2_with (first
                      | (refine wpList_store_sat (off := 0) (n := 20) rfl 46 _ _ rfl (SF.sel [3]) rfl rfl hlE (by decide) Tryz.sizeS h1E ?_; intro w14 S14; rw [zstore] at S14)
                      | (refine wpList_load_part rfl 46 _ rfl (n := 20) rfl (SF.part 0 20) (by rw [List.length_take, List.length_drop, hlE]; rfl) Tryz.underlying46 rfl Tryz.sizeS ?_; rw [List.drop_zero, List.take_of_length_le (by rw [hlE]; omega)]))
                    refine bodyPost_ret (results_cell_tmp_sat rfl _ S14 rfl Tryz.underlying46 rfl (by rw [hlE]; exact Tryz.sizeS) rfl) rfl ⟨?_, Sat.tail (Sat.tail (Sat.tail (Sat.tail (Sat.tail (Sat.tail S14)))))⟩
                    rw [HF.out]
                    show _ = Ending.returned (.tuple #[.agg (svals (endP cap sF)).toArray, .int .i64 0])
                    rw [HE.out]
                    rfl
                  · have hE : endP cap sF = { sF with frame := sF.frame + 1, over := true, winner := 1 } := hendp 1 (by rw [if_neg (by omega), if_pos h1])
                    have HE := Lib.hid hE
                    have hlE : (svals ({ sF with frame := sF.frame + 1, over := true, winner := 1 })).length = 20 := svals_length (s := { sF with frame := sF.frame + 1, over := true, winner := 1 }) hlF
                    have h1E := svals_one ({ sF with frame := sF.frame + 1, over := true, winner := 1 })
                    clear hE hov hlast hendp
                    go_upto_region 16 with (first
                      | (refine wpList_load_part rfl 46 _ rfl (n := 20) rfl (S10.part 0 20) (by rw [HMB.out, svals_length hlF]) Tryz.underlying46 rfl Tryz.sizeS ?_; rw [HMB.out])
                      | (refine wpList_store_sat (n := 20) rfl 46 _ _ rfl (S10.sel [4]) rfl rfl (svals_length hlF) (by rw [svals_length hs.len]; omega) Tryz.sizeS (svals_one sF) ?_; intro w11 S12; rw [HST.out] at S12; have hA := st_at hlF S12; have e0 := hA.frame; have e18 := hA.over; rw [HOV2.out] at e18; have f0 := hA.free 0; have f18 := hA.free 18; have ec := S12.cell 5 rfl 1; simp only [List.getElem?_cons_succ, List.getElem?_cons_zero] at ec; clear hA))
                    have S13 := st_ov hlF S12
                    generalize (w11.setCell ⟨pg + 1, 0, none⟩ (.int .i64 (sF.frame + 1))).setCell ⟨pg + 1, 18, none⟩ (.bool true) = w13 at S13 ⊢
                    clear S12 e0 e18 f0 f18 ec
                    have hA := st_at (s := { sF with frame := sF.frame + 1, over := true }) hlF S13
                    have e19 := hA.winner
                    have f19 := hA.free 19
                    have a0 := hA.cells 0 (by omega)
                    have a1 := hA.cells 1 (by omega)
                    simp only at a0 a1 e19
                    rw [HX0.out] at a0
                    rw [HX1.out] at a1
                    clear hA
                    have SF := st_wn (s := { sF with frame := sF.frame + 1, over := true }) hlF S13 1
                    go_wp2_with (first
                      | (refine wpList_store_sat (off := 0) (n := 20) rfl 46 _ _ rfl (SF.sel [3]) rfl rfl hlE (by decide) Tryz.sizeS h1E ?_; intro w14 S14; rw [zstore] at S14)
                      | (refine wpList_load_part rfl 46 _ rfl (n := 20) rfl (SF.part 0 20) (by rw [List.length_take, List.length_drop, hlE]; rfl) Tryz.underlying46 rfl Tryz.sizeS ?_; rw [List.drop_zero, List.take_of_length_le (by rw [hlE]; omega)]))
                    refine bodyPost_ret (results_cell_tmp_sat rfl _ S14 rfl Tryz.underlying46 rfl (by rw [hlE]; exact Tryz.sizeS) rfl) rfl ⟨?_, Sat.tail (Sat.tail (Sat.tail (Sat.tail (Sat.tail (Sat.tail S14)))))⟩
                    rw [HF.out]
                    show _ = Ending.returned (.tuple #[.agg (svals (endP cap sF)).toArray, .int .i64 0])
                    rw [HE.out]
                    rfl
end Go.Proofs.YtjdeeloemhjbhaaGreat
