/-
  GDu1, GDu2, GDu3, GDu4 in one text (wip/tools/joint.py)
-/
import Derived.StillTailTactics
import Derived.Test.YtjdeeloemhjbhaaGreatQRbN
import Derived.Test.YtjdeeloemhjbhaaGreatQDuP
import Derived.Test.YtjdeeloemhjbhaaGreatQVmI
import Derived.Test.YtjdeeloemhjbhaaGreatQVmK0
import Derived.Test.YtjdeeloemhjbhaaGreatQVmE
import Derived.Test.YtjdeeloemhjbhaaGreatQVmW4
import Derived.Test.YtjdeeloemhjbhaaGreatQSeg

section
namespace Go.Proofs.YtjdeeloemhjbhaaGreat
open Go.RowKit Go.Sep Go.Vm
set_option linter.unusedSimpArgs false

theorem fold_from : ∀ (cs : List Value) (k : Nat) (z : Array Value), z.size = k + cs.length → (List.foldl (fun cs x => cs.setIfInBounds x.2 x.1) z (cs.zipIdx k)).toList = z.toList.take k ++ cs
  | [], k, z, h => by
    simp only [List.zipIdx_nil, List.foldl_nil, List.append_nil]
    rw [List.take_of_length_le (by simpa using Nat.le_of_eq h)]
  | c :: r, k, z, h => by
    simp only [List.length_cons] at h
    rw [List.zipIdx_cons, List.foldl_cons, fold_from r (k + 1) _ (by simp; omega)]
    simp only [Array.toList_setIfInBounds]
    have hk : k < z.toList.length := by simp; omega
    have hkz : k < z.size := by omega
    rw [List.take_add_one, List.take_set_of_le (Nat.le_refl k)]
    simp only [List.append_assoc, List.append_cancel_left_eq, List.getElem?_set, if_pos hk, if_true]
    rfl
theorem fold_set (cs : List Value) (z : Array Value) (h : z.size = cs.length) : List.foldl (fun cs x => cs.setIfInBounds x.2 x.1) z cs.zipIdx = cs.toArray := by
  apply Array.toList_inj.1
  rw [fold_from cs 0 z (by omega)]
  rfl
theorem Tryz.infoS : (Tryz.prog.info? 46).map (fun i => (i.zero, i.size, i.bytes)) = some (some (.agg #[.int .i64 0, .int .i32 0, .int .i32 0, .int .i32 0, .int .i32 0, .int .i32 0, .int .i32 0, .int .i32 0, .int .i32 0, .int .i32 0, .int .i32 0, .int .i32 0, .int .i32 0, .int .i32 0, .int .i32 0, .int .i32 0, .int .i32 0, .int .u32 0, .bool false, .int .i64 0]), 20, 88) := by kernel_rfl
/-- Play's: the last state -/
theorem lastP_len {l : List VS} (h : ∀ s ∈ l, s.Ok) : (lastP VS.zero l).cells.length = 16 := by
  unfold lastP
  have hm := List.getLast_mem (l := VS.zero :: l) (by simp)
  rcases List.mem_cons.1 hm with e | e
  · rw [e]; rfl
  · exact (h _ e).len
/-- States': all of them -/
def sst (ao : Option Addr) (n cap : Nat) (l : List VS) : Asn := slc 46 20 ao n cap (stv l)
def TS (q : Nat) (l : List VS) : Asn := exA fun (r : Option Addr × Nat) => pureA (∀ s ∈ l, s.Ok) (star (blk q [.slice r.1 l.length r.2] 83) (sst r.1 l.length r.2 l))

theorem TS_open {W0 w : World} {L : List Asn} {q : Nat} {l : List VS} : Sat W0 w (TS q l :: L) ↔ ∃ ao cap, (∀ s ∈ l, s.Ok) ∧ Sat W0 w (blk q [.slice ao l.length cap] 83 :: sst ao l.length cap l :: L) := by
  unfold TS
  rw [Sat.ex]
  constructor
  · rintro ⟨⟨ao, cap⟩, h⟩
    obtain ⟨h1, h2⟩ := Sat.pure.1 h
    exact ⟨ao, cap, h1, Sat.star.1 h2⟩
  · rintro ⟨ao, cap, h1, h2⟩
    exact ⟨⟨ao, cap⟩, Sat.pure.2 ⟨h1, Sat.star.2 h2⟩⟩
theorem stv_append (a b : List VS) : stv (a ++ b) = stv a ++ stv b := by simp [stv]
theorem stv_one (s : VS) : stv [s] = svals s := by simp [stv]
end Go.Proofs.YtjdeeloemhjbhaaGreat
end

section
namespace Go.Proofs.YtjdeeloemhjbhaaGreat
open Go.RowKit Go.Sep Go.Vm
set_option linter.unusedSimpArgs false

theorem sstore {x : List Value} (h : x.length = 20) (xs : List Value) : x.take 0 ++ xs ++ x.drop (0 + 20) = xs := by
  rw [List.take_zero, List.nil_append, List.drop_of_length_le (by omega), List.append_nil]
end Go.Proofs.YtjdeeloemhjbhaaGreat
end

section
namespace Go.Proofs.YtjdeeloemhjbhaaGreat
open Go.RowKit Go.Sep Go.Vm
set_option linter.unusedSimpArgs false

def playP (code : List (Int × Int)) (cap fuel seed : Int) (ps : List (Int × Int)) : VS × Int :=
  if checkP code cap fuel = 0 then (lastP (VS.start seed) (framesP code cap fuel (VS.start seed) ps), 0) else (VS.zero, checkP code cap fuel)
def statesP (code : List (Int × Int)) (cap fuel seed : Int) (ps : List (Int × Int)) : List VS :=
  if checkP code cap fuel = 0 then VS.start seed :: framesP code cap fuel (VS.start seed) ps else []
theorem lastP_cons (z s : VS) (l : List VS) : lastP z (s :: l) = lastP s l := by
  unfold lastP
  rw [List.getLast_cons (by simp)]

theorem framesP_goes {code : List (Int × Int)} {cap fuel : Int} (hk : checkP code cap fuel = 0) : ∀ (ps : List (Int × Int)) (s : VS), Goes cap s → (∀ x ∈ ps, (0 ≤ x.1 ∧ x.1 < 65536) ∧ (0 ≤ x.2 ∧ x.2 < 65536)) → ∀ t ∈ framesP code cap fuel s ps, Goes cap t
  | [], _, _, _ => by simp [framesP]
  | x :: l, s, hs, hp => by
    intro t ht
    unfold framesP at ht
    cases ho : s.over with
    | true => rw [if_pos ho] at ht; simp at ht
    | false =>
      rw [if_neg (by rw [ho]; simp)] at ht
      have hx := hp x (by simp)
      obtain ⟨u, hu, hg, _⟩ := goes_step hk hs ho hx.1 hx.2
      rw [hu] at ht
      rcases List.mem_cons.1 ht with rfl | ht
      · exact hg
      · exact framesP_goes hk l u hg (fun y hy => hp y (by simp [hy])) t ht
theorem framesP_ok {code : List (Int × Int)} {cap fuel seed : Int} {ps : List (Int × Int)} (hk : checkP code cap fuel = 0) (hsd : 0 ≤ seed ∧ seed < 4294967296) (hp : ∀ x ∈ ps, (0 ≤ x.1 ∧ x.1 < 65536) ∧ (0 ≤ x.2 ∧ x.2 < 65536)) :
    ∀ t ∈ VS.start seed :: framesP code cap fuel (VS.start seed) ps, t.Ok := by
  intro t ht
  rcases List.mem_cons.1 ht with rfl | ht
  · exact start_ok hsd
  · exact (framesP_goes hk ps _ (goes_start hk hsd) hp t ht).ok

def StatesPost (W0 : World) (L : List Asn) (l : List VS) (er : Int) (e : Ending) (w' : World) : Prop := ∃ ao cap, e = .returned (.tuple #[.slice ao l.length cap, .int .i64 er]) ∧ Sat W0 w' (sst ao l.length cap l :: L)

end Go.Proofs.YtjdeeloemhjbhaaGreat
end

section
namespace Go.Proofs.YtjdeeloemhjbhaaGreat
open Go.RowKit Go.Sep Go.Vm
set_option linter.unusedSimpArgs false

set_option maxRecDepth 100000 in
set_option maxHeartbeats 3200000 in
theorem r11states_any {W0 w : World} {L : List Asn} (S : Sat W0 w L) {a : Option Addr} {n c : Nat} {code : List (Int × Int)} (hR : ∀ w', Sat W0 w' L → Rd w' a (insv code)) (hn : code.length = n) (hnm : n ≤ maxLen)
    (cap fuel : Int) (seed : Int) (hsd : 0 ≤ seed ∧ seed < 4294967296) {b : Option Addr} {m d : Nat} {ps : List (Int × Int)} (hRb : ∀ w', Sat W0 w' L → Rd w' b (pairsv ps)) (hm : ps.length = m) (hm9 : m ≤ 900)
    (hpb : ∀ x ∈ ps, (0 ≤ x.1 ∧ x.1 < 65536) ∧ (0 ≤ x.2 ∧ x.2 < 65536)) :
    Calls Tryz.prog 36 #[.agg #[.slice a n c, .int .i64 cap, .int .i64 fuel], .int .u32 seed, .slice b m d] w (StatesPost W0 L (statesP code cap fuel seed ps) (checkP code cap fuel)) := by
  have S1 := S.alloc [.slice a n c, .int .i64 cap, .int .i64 fuel] 24
  have HN := Lib.hid hn
  have HR1 := Lib.hid (fun (w' : World) (h : Sat W0 w' (blk w.heap.size [.slice a n c, .int .i64 cap, .int .i64 fuel] 24 :: L)) => hR w' h.tail)
  by_cases hk : checkP code cap fuel = 0
  · have hP : statesP code cap fuel seed ps = VS.start seed :: framesP code cap fuel (VS.start seed) ps := by unfold statesP; rw [if_pos hk]
    rw [hP, hk]
    have HM := Lib.hid hm
    have HR := Lib.hid hR
    have HRB := Lib.hid hRb
    have HPB := Lib.hid hpb
    have HC := Lib.hid hk
    have hgo := goes_start hk hsd
    obtain ⟨s0, hs0⟩ : ∃ s0, VS.start seed = s0 := ⟨_, rfl⟩
    rw [hs0] at hgo ⊢
    have HS0 := Lib.hid hs0
    have HL0 := Lib.hid (svals_length hgo.ok.len)
    have hl0 := HL0.out
    have HGO : Hid (Goes cap s0) := hgo
    have hfold := fold_set (svals s0) #[.int .i64 0, .int .i32 0, .int .i32 0, .int .i32 0, .int .i32 0, .int .i32 0, .int .i32 0, .int .i32 0, .int .i32 0, .int .i32 0, .int .i32 0, .int .i32 0, .int .i32 0, .int .i32 0, .int .i32 0, .int .i32 0, .int .i32 0, .int .u32 0, .bool false, .int .i64 0] (by rw [HL0.out]; rfl)
    clear hn hk hR hRb hm hs0 hpb hgo hP
    go_enter Tryz.func36, Tryz.ntmps36
    go_wp2_with (first
      | (go_at_call 8; refine (r10check_any S1 HR1.out HN.out hnm cap fuel).mono ?_; rintro e w2 ⟨rfl, S2⟩; rw [HC.out])
      | (go_at_call 53; refine (r10start_any S2 seed hsd).mono ?_; unfold StartsAt; rintro e w3 ⟨rfl, S3⟩; rw [HS0.out]; have S4 := S3.alloc [.int .i64 0, .int .i32 0, .int .i32 0, .int .i32 0, .int .i32 0, .int .i32 0, .int .i32 0, .int .i32 0, .int .i32 0, .int .i32 0, .int .i32 0, .int .i32 0, .int .i32 0, .int .i32 0, .int .i32 0, .int .i32 0, .int .i32 0, .int .u32 0, .bool false, .int .i64 0] 46)
      | (refine wpList_store_sat (off := 0) (n := 20) rfl 46 _ _ rfl S4 rfl rfl HL0.out (by decide) Tryz.sizeS (svals_one s0) ?_; intro w5 S5; rw [zstore] at S5; have S6 := S5.alloc (svals s0) 46)
      | (refine wpList_load_part rfl 46 _ rfl (n := 20) rfl (Sat.whole S5 20) HL0.out Tryz.underlying46 rfl Tryz.sizeS ?_))
    have hso1 := stv_one s0
    have S7 : Sat W0 _ (sst (some ⟨w5.heap.size, 0, none⟩) 1 1 [s0] :: blk w3.heap.size (svals s0) 46 :: blk w.heap.size [.slice a n c, .int .i64 cap, .int .i64 fuel] 24 :: L) :=
      Sat.own_new (post := []) (by rw [List.append_nil, hso1]; exact S6) (by rw [hso1, HL0.out]) (Nat.le_refl _) (by unfold maxLen; omega) (by simp)
    clear hso1 S1 S2 S3 S4 S5 S6 HR1 HL0 hfold hl0
    generalize w3.heap.size = pq at S7 ⊢
    generalize w.heap.size = pg at S7 ⊢
    generalize w5.alloc _ = w7 at S7 ⊢
    generalize w5.heap.size = pl at S7 ⊢
    go_loopw [10, 11] (fun l i wr => ∃ (k : Nat) (s : VS) (told : List VS) (ao : Option Addr) (cp : Nat), k ≤ m ∧ i = .int .i64 k ∧ l = .slice ao told.length cp ∧ Hid (Goes cap s) ∧ told.length ≤ k + 1 ∧ Hid (told ++ framesP code cap fuel s (ps.drop k) = s0 :: framesP code cap fuel s0 ps) ∧ Sat W0 wr (sst ao told.length cp told :: blk pq (svals s) 46 :: blk pg [.slice a n c, .int .i64 cap, .int .i64 fuel] 24 :: L)) (fun _ i _ => m - (intOf i).toNat)
    case atStart => exact ⟨0, s0, [s0], _, _, by omega, rfl, rfl, HGO, by simp, rfl, S7⟩
    case round =>
      clear S7 HGO
      obtain ⟨k, s, told, ao, cp, hk, rfl, rfl, HG, htl, HE, S9⟩ := hrel
      have k0 : (0 : Int) ≤ (k : Int) := Int.natCast_nonneg _
      have hso := HG.out.ok
      have HSL := Lib.hid (svals_length hso.len)
      have hov := (svals_tail hso.len 1)
      simp only [List.getElem?_cons_zero, List.getElem?_cons_succ] at hov
      have cov := S9.cell 1 rfl 18
      rw [hov] at cov
      clear hov
      by_cases hlt : k < m
      · have k1 : (k : Int) < (m : Int) := by omega
        cases ho : s.over with
        | true =>
          rw [ho] at cov
          go_wp2_with fail
          go_ret2
          have HE' := HE.out
          rw [framesP_over ho, List.append_nil] at HE'
          rw [← HE']
          exact ⟨_, _, rfl, S9.swap.tail.swap.tail⟩
        | false =>
          rw [ho] at cov
          obtain ⟨x, hx⟩ : ∃ x, ps[k]? = some x := ⟨ps[k]'(by rw [HM.out]; exact hlt), List.getElem?_eq_getElem _⟩
          have hpx := HPB.out x (List.mem_of_getElem? hx)
          obtain ⟨i0, i1⟩ := x
          have hpx0 : 0 ≤ i0 ∧ i0 < 65536 := hpx.1
          have hpx1 : 0 ≤ i1 ∧ i1 < 65536 := hpx.2
          obtain ⟨bb, off, rfl, p0, p1⟩ := pairsv_cells (HRB.out _ S9.tail.tail.tail) hx
          obtain ⟨t, hst, hgt, hfr⟩ := goes_step HC.out HG.out ho hpx0 hpx1
          have HST := Lib.hid hst
          have HGT := Lib.hid hgt
          have HTL := Lib.hid (svals_length hgt.ok.len)
          have hto := hgt.ok
          have HFR' := Lib.hid (framesP_on ho hx HST.out)
          have HGC := Lib.hid (fun (w' : World) (h : Sat W0 w' (sst ao told.length cp told :: blk pq (svals s) 46 :: blk pg [.slice a n c, .int .i64 cap, .int .i64 fuel] 24 :: L)) => HR.out w' h.tail.tail.tail)
          have hfold := fold_set (svals t) #[.int .i64 0, .int .i32 0, .int .i32 0, .int .i32 0, .int .i32 0, .int .i32 0, .int .i32 0, .int .i32 0, .int .i32 0, .int .i32 0, .int .i32 0, .int .i32 0, .int .i32 0, .int .i32 0, .int .i32 0, .int .i32 0, .int .i32 0, .int .u32 0, .bool false, .int .i64 0] (by rw [HTL.out]; rfl)
          have htl20 := HTL.out
          obtain ⟨j0, hi, hz0, hz1, hz2⟩ := info_parts Tryz.infoS
          have HLEN := Lib.hid (S9.own_len)
          have h1t := Lib.hid (svals_one t)
          clear hst hgt hfr hx hpx
          go_upto_region 9 with fail
          have S10 := S9.drew
          have g10 := gat (S10.sel [2])
          refine wp_region_drawn (N := 11) (LN := #[false, false, false, false, false, false, false, false, false, false, false]) (by kernel_rfl) (by kernel_rfl) (by kernel_rfl) ?_
          refine wpAny_seg 0 6 5 11 #[true, true, true, true, true, true, false, false, false, false, false] (by kernel_rfl) (by kernel_rfl) ?_
          simp only [List.take_succ_cons, List.take_zero, List.drop_succ_cons, List.drop_zero]
          refine wpStill_step (fun K hK => ?_); go_simp; refine hK _ ?_; clear hK K
          try simp only [Act.put, List.getElem_toArray, List.getElem_cons_zero, List.getElem_cons_succ, List.setIfInBounds_toArray, List.set_cons_zero, List.set_cons_succ]
          refine wpStill_step (fun K hK => ?_); refine still_load_part rfl 46 _ rfl (n := 20) rfl (Sat.whole (S10.sel [1]) 20) HSL.out Tryz.underlying46 rfl (by kernel_rfl) ?_; refine hK _ ?_; clear hK K
          try simp only [Act.put, List.getElem_toArray, List.getElem_cons_zero, List.getElem_cons_succ, List.setIfInBounds_toArray, List.set_cons_zero, List.set_cons_succ]
          refine wpStill_step (fun K hK => ?_); go_simp; refine hK _ ?_; clear hK K
          try simp only [Act.put, List.getElem_toArray, List.getElem_cons_zero, List.getElem_cons_succ, List.setIfInBounds_toArray, List.set_cons_zero, List.set_cons_succ]
          refine wpStill_step (fun K hK => ?_); go_simp; refine hK _ ?_; clear hK K
          try simp only [Act.put, List.getElem_toArray, List.getElem_cons_zero, List.getElem_cons_succ, List.setIfInBounds_toArray, List.set_cons_zero, List.set_cons_succ]
          refine wpStill_step (fun K hK => ?_); go_simp; refine hK _ ?_; clear hK K
          try simp only [Act.put, List.getElem_toArray, List.getElem_cons_zero, List.getElem_cons_succ, List.setIfInBounds_toArray, List.set_cons_zero, List.set_cons_succ]
          refine wpStill_step (fun K hK => ?_); go_simp; refine hK _ ?_; clear hK K
          try simp only [Act.put, List.getElem_toArray, List.getElem_cons_zero, List.getElem_cons_succ, List.setIfInBounds_toArray, List.set_cons_zero, List.set_cons_succ]
          refine wpStill_nil ?_
          refine wpAny_one (i := 6) (LN := #[true, true, true, true, true, true, true, false, false, false, false]) (by kernel_rfl) rfl (by kernel_rfl) ?_
          intro K hK
          go_simp
          go_at_call 54
          refine (r10step_any S10 HGC.out HN.out hnm cap fuel hso i0 i1 hpx0 hpx1).mono ?_
          unfold Stepped
          rintro e w3 ⟨rfl, S11⟩
          rw [HST.out]
          go_wp2_with fail
          refine hK.out _ _ ?_
          clear hK K
          try simp only [Act.put, List.getElem_toArray, List.getElem_cons_zero, List.getElem_cons_succ, List.setIfInBounds_toArray, List.set_cons_zero, List.set_cons_succ]
          refine wpAny_loc (i := 7) (v := ?_) (LN := #[true, true, true, true, true, true, true, true, false, false, false]) rfl (by kernel_rfl) (by kernel_rfl) (by kernel_rfl) (fun _ _ _ h => h) (by kernel_rfl) (by rfl) ?_ ?_
          rotate_left
          · intro w; first | (go_simp; done) | (go_simp; with_reducible rfl)
          try simp only [Act.put, List.getElem_toArray, List.getElem_cons_zero, List.getElem_cons_succ, List.setIfInBounds_toArray, List.set_cons_zero, List.set_cons_succ]
          refine wpAny_loc (i := 8) (v := ?_) (LN := #[true, true, true, true, true, true, true, true, true, false, false]) rfl (by kernel_rfl) (by kernel_rfl) (by kernel_rfl) (fun _ _ _ h => h) (by kernel_rfl) (by rfl) ?_ ?_
          rotate_left
          · intro w; first | (go_simp; done) | (go_simp; with_reducible rfl)
          try simp only [Act.put, List.getElem_toArray, List.getElem_cons_zero, List.getElem_cons_succ, List.setIfInBounds_toArray, List.set_cons_zero, List.set_cons_succ]
          refine wpAny_loc (i := 9) (v := ?_) (LN := #[true, true, true, true, true, true, true, true, true, true, false]) rfl (by kernel_rfl) (by kernel_rfl) (by kernel_rfl) (fun _ _ _ h => h) (by kernel_rfl) (by rfl) ?_ ?_
          rotate_left
          · intro w; first | (go_simp; done) | (go_simp; with_reducible rfl)
          try simp only [Act.put, List.getElem_toArray, List.getElem_cons_zero, List.getElem_cons_succ, List.setIfInBounds_toArray, List.set_cons_zero, List.set_cons_succ]
          refine wpAny_one (i := 10) (LN := #[true, true, true, true, true, true, true, true, true, true, true]) (by kernel_rfl) rfl (by kernel_rfl) ?_
          intro K hK
          refine step_store_sat (off := 0) (n := 20) rfl 46 _ _ rfl (S11.sel [1]) rfl rfl HTL.out (by rw [HSL.out]; decide) Tryz.sizeS h1t.out ?_
          intro w4 S12
          rw [sstore HSL.out] at S12
          refine hK.out _ _ ?_
          clear hK K
          try simp only [Act.put, List.getElem_toArray, List.getElem_cons_zero, List.getElem_cons_succ, List.setIfInBounds_toArray, List.set_cons_zero, List.set_cons_succ]
          refine ⟨by kernel_rfl, ?_⟩
          try simp only [Act.put, List.getElem_toArray, List.getElem_cons_zero, List.getElem_cons_succ, List.setIfInBounds_toArray, List.set_cons_zero, List.set_cons_succ]
          have S13 := S12.alloc (svals t) 46
          go_wp2_with (first
            | (refine wpList_load_part rfl 46 _ rfl (n := 20) rfl (Sat.whole S12 20) HTL.out Tryz.underlying46 rfl Tryz.sizeS ?_)
            | (at_builtin; refine wpList_append_sat rfl (.tmp 42) (.tmp 44) _ rfl 46 j0 _ 20 88 Tryz.underlying83 hi hz0 hz1 hz2 rfl (by decide) (S13.sel [2]) rfl rfl (Rd.lit (S13.block 0 rfl).1) HTL.out h1t.out (by unfold maxLen; omega) (by omega) ?_; intro ao' cap' w5 S14))
          refine ⟨⟨k + 1, t, told ++ [t], ao', cap', by omega, rfl, by simp, HGT, by simp; omega, ?_, ?_⟩, by simp [intOf]; omega⟩
          · have HE' := HE.out
            rw [HFR'.out] at HE'
            rw [← HE', List.append_assoc]
            rfl
          · unfold sst
            rw [stv_append, stv_one, List.length_append, List.length_singleton]
            exact (S14.sel [1]).tail
      · have hkm : k = m := by omega
        subst hkm
        go_wp2_with fail
        go_ret2
        have HE' := HE.out
        rw [List.drop_of_length_le (Nat.le_of_eq HM.out), framesP, List.append_nil] at HE'
        rw [← HE']
        exact ⟨_, _, rfl, S9.swap.tail.swap.tail⟩
  · have hP : statesP code cap fuel seed ps = [] := by unfold statesP; rw [if_neg hk]
    rw [hP]
    have HC : Hid (checkP code cap fuel ≠ 0) := hk
    clear hn hR hRb hm hpb hP
    obtain ⟨ck, hck⟩ : ∃ ck, checkP code cap fuel = ck := ⟨_, rfl⟩
    rw [hck] at HC ⊢
    have hz : (ck != 0) = true := by simpa using HC.out
    have HK := Lib.hid hck
    clear hck hk HC
    go_enter Tryz.func36, Tryz.ntmps36
    go_wp2_with (first
      | (go_at_call 8; refine (r10check_any S1 HR1.out HN.out hnm cap fuel).mono ?_; rintro e w2 ⟨rfl, S2⟩; rw [HK.out]))
    go_ret2
    exact ⟨none, 0, rfl, Sat.own_none.2 ⟨rfl, rfl, rfl, S2.tail⟩⟩
theorem statesP_ok {code : List (Int × Int)} {cap fuel seed : Int} {ps : List (Int × Int)} (hsd : 0 ≤ seed ∧ seed < 4294967296) (hp : ∀ x ∈ ps, (0 ≤ x.1 ∧ x.1 < 65536) ∧ (0 ≤ x.2 ∧ x.2 < 65536)) : ∀ t ∈ statesP code cap fuel seed ps, t.Ok := by
  intro t ht
  unfold statesP at ht
  split at ht
  · rename_i hk; exact framesP_ok hk hsd hp t ht
  · simp at ht
theorem sst_at {W0 w : World} {L : List Asn} {ao : Option Addr} {n cap : Nat} {l : List VS} (S : Sat W0 w (sst ao n cap l :: L)) {k : Nat} {t : VS} (ho : ∀ s ∈ l, s.Ok) (h : l[k]? = some t) :
    ∃ b off, ao = some ⟨b, off, none⟩ ∧ ∀ j, j < 20 → w.cell? ⟨b, off + k * 20 + j, none⟩ = (svals t)[j]? := by
  have hr := S.own_rd
  have hl : k < l.length := (List.getElem?_eq_some_iff.1 h).1
  have hlen := stv_length ho
  have h0 : k * 20 < (stv l).length := by omega
  obtain ⟨b, off, rfl, _⟩ := hr (k * 20) (stv l)[k * 20] (List.getElem?_eq_getElem h0)
  refine ⟨b, off, rfl, fun j hj => ?_⟩
  have hk20 : k * 20 + j < (stv l).length := by omega
  have h1 : (stv l)[k * 20 + j]? = (svals t)[j]? := by
    rw [← stv_part ho h, List.getElem?_take, if_pos hj, List.getElem?_drop]
  rw [Nat.add_assoc, hr.at (List.getElem?_eq_getElem hk20), ← h1, List.getElem?_eq_getElem hk20]

set_option maxRecDepth 100000 in
set_option maxHeartbeats 1600000 in
theorem r11play_any {W0 w : World} {L : List Asn} (S : Sat W0 w L) {a : Option Addr} {n c : Nat} {code : List (Int × Int)} (hR : ∀ w', Sat W0 w' L → Rd w' a (insv code)) (hn : code.length = n) (hnm : n ≤ maxLen)
    (cap fuel : Int) (seed : Int) (hsd : 0 ≤ seed ∧ seed < 4294967296) {b : Option Addr} {m d : Nat} {ps : List (Int × Int)} (hRb : ∀ w', Sat W0 w' L → Rd w' b (pairsv ps)) (hm : ps.length = m) (hm9 : m ≤ 900)
    (hpb : ∀ x ∈ ps, (0 ≤ x.1 ∧ x.1 < 65536) ∧ (0 ≤ x.2 ∧ x.2 < 65536)) :
    Calls Tryz.prog 13 #[.agg #[.slice a n c, .int .i64 cap, .int .i64 fuel], .int .u32 seed, .slice b m d] w (Stepped W0 L (playP code cap fuel seed ps)) := by
  have S1 := (S.alloc [.slice a n c, .int .i64 cap, .int .i64 fuel] 24).alloc (svals VS.zero) 46
  simp only [World.size_alloc] at S1
  have HF := Lib.hid (fun (w' : World) (h : Sat W0 w' (blk (w.heap.size + 1) (svals VS.zero) 46 :: blk w.heap.size [.slice a n c, .int .i64 cap, .int .i64 fuel] 24 :: L)) => r11states_any h (c := c) (fun w' h => hR w' h.tail.tail) hn hnm cap fuel seed hsd (d := d) (fun w' h => hRb w' h.tail.tail) hm hm9 hpb)
  have hok := statesP_ok (code := code) (cap := cap) (fuel := fuel) (seed := seed) hsd hpb
  by_cases hk : checkP code cap fuel = 0
  · have hP : playP code cap fuel seed ps = (lastP (VS.start seed) (framesP code cap fuel (VS.start seed) ps), 0) := by unfold playP; rw [if_pos hk]
    have hP2 : statesP code cap fuel seed ps = VS.start seed :: framesP code cap fuel (VS.start seed) ps := by unfold statesP; rw [if_pos hk]
    have hlen := framesP_len (code := code) (cap := cap) (fuel := fuel) ps (VS.start seed)
    rw [hP]
    rw [hP2, hk] at HF
    rw [hP2] at hok
    obtain ⟨x, hx⟩ : ∃ x, lastP (VS.start seed) (framesP code cap fuel (VS.start seed) ps) = x := ⟨_, rfl⟩
    have hat : (VS.start seed :: framesP code cap fuel (VS.start seed) ps)[(framesP code cap fuel (VS.start seed) ps).length]? = some x := by
      rw [← hx]; unfold lastP
      rw [List.getLast_eq_getElem, List.getElem?_eq_getElem (by simp)]
      simp
    rw [hx]
    generalize VS.start seed = s0 at *
    generalize framesP code cap fuel s0 ps = l at *
    have HLX := Lib.hid (svals_length (hok x (List.mem_of_getElem? hat)).len)
    have HSA := Lib.hid (fun (w' : World) (L' : List Asn) (ao : Option Addr) (cp : Nat) (h : Sat W0 w' (sst ao (s0 :: l).length cp (s0 :: l) :: L')) => sst_at h hok hat)
    have hl9 : l.length ≤ 900 := by omega
    have HX1 := Lib.hid (svals_one x)
    clear hok hat hlen hx hP hP2 hk
    go_enter Tryz.func13, Tryz.ntmps13
    go_wp2_with (first
      | (go_at_call 36; refine (HF.out _ S1).mono ?_; unfold StatesPost; rintro e w2 ⟨ao, cp, rfl, S2⟩; obtain ⟨bb, off, rfl, hcell⟩ := HSA.out _ _ _ _ S2; rw [List.length_cons] at S2 ⊢)
      | (refine wpList_load_part rfl 46 _ rfl (n := 20) rfl hcell HLX.out Tryz.underlying46 rfl Tryz.sizeS ?_)
      | (refine wpList_store_sat (off := 0) (n := 20) rfl 46 _ _ rfl (S2.sel [1]) rfl rfl HLX.out (by decide) Tryz.sizeS HX1.out ?_; intro w4 S6; rw [sstore (by rfl)] at S6))
    exact bodyPost_ret (results_cell_tmp_sat rfl _ S6 rfl Tryz.underlying46 rfl (by rw [HLX.out]; exact Tryz.sizeS) rfl) rfl ⟨rfl, S6.tail.tail.tail⟩
  · have hP : playP code cap fuel seed ps = (VS.zero, checkP code cap fuel) := by unfold playP; rw [if_neg hk]
    have hP2 : statesP code cap fuel seed ps = [] := by unfold statesP; rw [if_neg hk]
    rw [hP]
    rw [hP2] at HF
    obtain ⟨ck, hck⟩ : ∃ ck, checkP code cap fuel = ck := ⟨_, rfl⟩
    rw [hck] at HF hk ⊢
    have hz : (ck != 0) = true := by simpa using hk
    clear hP hP2 hok hck hk
    go_enter Tryz.func13, Tryz.ntmps13
    go_wp2_with (first
      | (go_at_call 36; refine (HF.out _ S1).mono ?_; unfold StatesPost; rintro e w2 ⟨ao, cp, rfl, S2⟩; have S3 := S2.tail)
      | (refine wpList_store_sat (off := 0) (n := 20) rfl 46 _ _ rfl S3 rfl rfl (by rfl) (by decide) Tryz.sizeS (svals_one VS.zero) ?_; intro w4 S6; rw [sstore (by rfl)] at S6))
    exact bodyPost_ret (results_cell_tmp_sat rfl _ S6 rfl Tryz.underlying46 rfl Tryz.sizeS rfl) rfl ⟨rfl, S6.tail.tail⟩
end Go.Proofs.YtjdeeloemhjbhaaGreat
end
