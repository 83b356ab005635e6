/-
  duel: the fold.
-/
import Derived.Test.YtpcffejanlokiaaDu1
import Derived.StillTailTactics
namespace Go.Proofs.Ytpcffejanlokiaa
open Go.RowKit Go.Sep Go.Vm
set_option linter.unusedSimpArgs false

set_option maxRecDepth 100000 in
set_option maxHeartbeats 1600000 in
theorem fold_bad {W0 w : World} {L : List Asn} (S : Sat W0 w L) (f : Value) {a : Option Addr} {n c : Nat} {code : List (Int × Int)} (hR : ∀ w', Sat W0 w' L → Rd w' a (insv code)) (hn : code.length = n) (hnm : n ≤ maxLen)
    (cap fuel : Int) {ck : Int} (hk : checkP code cap fuel = ck) (hk0 : ck ≠ 0) (seed : Int) (v : Value) (g : Value) :
    Calls Try.prog 22 #[.agg #[.slice a n c, .int .i64 cap, .int .i64 fuel], .int .u32 seed, v, f, g] w fun e w' => e = .returned (.int .i64 ck) ∧ Sat W0 w' L := by
  have S1 := S.alloc [.slice a n c, .int .i64 cap, .int .i64 fuel] 24
  have HN := Lib.hid hn
  have HK := Lib.hid hk
  have HR1 := Lib.hid (fun (w' : World) (h : Sat W0 w' (blk w.heap.size [.slice a n c, .int .i64 cap, .int .i64 fuel] 24 :: L)) => hR w' h.tail)
  have hz : (ck != 0) = true := by simpa using hk0
  clear hn hk hR
  go_enter Try.func22, Try.ntmps22
  go_wp2_with (go_at_call 29; refine (vCheck_any S1 HR1.out HN.out hnm cap fuel).mono ?_; rintro e w2 ⟨rfl, S2⟩; rw [HK.out])
  go_ret
  exact ⟨rfl, S2.tail⟩

theorem sstore {x : List Value} (h : x.length = 20) (xs : List Value) : x.take 0 ++ xs ++ x.drop (0 + 20) = xs := by
  rw [List.take_zero, List.nil_append, List.drop_of_length_le (by omega), List.append_nil]
def Folded (W0 : World) (T : List VS → Asn) (l : List VS) (L : List Asn) (e : Ending) (w' : World) : Prop := e = .returned (.int .i64 0) ∧ Sat W0 w' (T l :: L)

set_option maxRecDepth 100000 in
set_option maxHeartbeats 3200000 in
theorem fold_ok {W0 w : World} {L : List Asn} {T : List VS → Asn} {K q : Nat} (hent : Ent K) (hT : Tells W0 T K q) (S : Sat W0 w (T [] :: L)) {a : Option Addr} {n c : Nat} {code : List (Int × Int)} (hR : ∀ w', Sat W0 w' L → Rd w' a (insv code)) (hn : code.length = n) (hnm : n ≤ maxLen)
    (cap fuel : Int) (hk : checkP code cap fuel = 0) (seed : Int) (hsd : 0 ≤ seed ∧ seed < 4294967296) {b : Option Addr} {m d : Nat} {ps : List (Int × Int)} (hRb : ∀ w', Sat W0 w' L → Rd w' b (pairsv ps)) (hm : ps.length = m) (hm9 : m ≤ 900)
    (hpb : ∀ x ∈ ps, (0 ≤ x.1 ∧ x.1 < 65536) ∧ (0 ≤ x.2 ∧ x.2 < 65536)) :
    Calls Try.prog 22 #[.agg #[.slice a n c, .int .i64 cap, .int .i64 fuel], .int .u32 seed, .slice b m d, .func (.func 23) #[] #[], .func (.func K) #[] #[.pointer (some ⟨q, 0, none⟩)]] w
      (Folded W0 T (VS.start seed :: framesP code cap fuel (VS.start seed) ps) L) := by
  have S1 := S.alloc [.slice a n c, .int .i64 cap, .int .i64 fuel] 24
  have HN := Lib.hid hn
  have HM := Lib.hid hm
  have HR1 := Lib.hid (fun (w' : World) (h : Sat W0 w' (blk w.heap.size [.slice a n c, .int .i64 cap, .int .i64 fuel] 24 :: T [] :: L)) => hR w' h.tail.tail)
  have HR := Lib.hid hR
  have HRB := Lib.hid hRb
  have HPB := Lib.hid hpb
  have HC := Lib.hid hk
  have HT : Hid (Tells W0 T K q) := hT
  have hgo := goes_start hk hsd
  obtain ⟨s0, hs0⟩ : ∃ s0, VS.start seed = s0 := ⟨_, rfl⟩
  rw [hs0] at hgo ⊢
  have HS0 := Lib.hid hs0
  have HL0 := Lib.hid (svals_length hgo.ok.len)
  have HGO : Hid (Goes cap s0) := hgo
  have HENT := Lib.hid hent
  unfold Ent at hent
  clear hn hk hR hRb hm hT hs0 hpb hgo
  go_enter Try.func22, Try.ntmps22
  go_wp2_with (first
    | (refine (HT.out _ _ _ _ HGO.out.ok (by simp) (S5.sel [2])).mono ?_; unfold Toldd; rintro e w6 ⟨rfl, S6⟩)
    | (refine wpList_load_part rfl 31 _ rfl (n := 20) rfl (Sat.whole S5 20) HL0.out Try.underlying31 rfl Try.sizeS ?_)
    | (refine wpList_store_sat (off := 0) (n := 20) rfl 31 _ _ rfl S4 rfl rfl HL0.out (by decide) Try.sizeS (svals_one s0) ?_; intro w5 S5; rw [zstore] at S5)
    | (go_at_call 29; refine (vCheck_any S1 HR1.out HN.out hnm cap fuel).mono ?_; rintro e w2 ⟨rfl, S2⟩; rw [HC.out])
    | (go_at_call 30; refine (vStart_any S2 seed hsd).mono ?_; unfold StartsAt; rintro e w3 ⟨rfl, S3⟩; rw [HS0.out]; have S4 := S3.alloc [.int .i64 0, .int .i32 0, .int .i32 0, .int .i32 0, .int .i32 0, .int .i32 0, .int .i32 0, .int .i32 0, .int .i32 0, .int .i32 0, .int .i32 0, .int .i32 0, .int .i32 0, .int .i32 0, .int .i32 0, .int .i32 0, .int .i32 0, .int .u32 0, .bool false, .int .i64 0] 31))
  have S7 : Sat W0 w6 (blk w3.heap.size (svals s0) 31 :: blk w.heap.size [.slice a n c, .int .i64 cap, .int .i64 fuel] 24 :: T [s0] :: L) := S6.sel [1, 1]
  generalize w3.heap.size = pq at S7 ⊢
  generalize w.heap.size = pg at S7 ⊢
  clear S1 S2 S3 S4 S5 S6 HR1 HL0
  go_loopw [29] (fun i wr => ∃ (k : Nat) (s : VS) (told : List VS), k ≤ m ∧ i = .int .i64 k ∧ Hid (Goes cap s) ∧ told.length ≤ k + 1 ∧ Hid (told ++ framesP code cap fuel s (ps.drop k) = s0 :: framesP code cap fuel s0 ps) ∧ Sat W0 wr (blk pq (svals s) 31 :: blk pg [.slice a n c, .int .i64 cap, .int .i64 fuel] 24 :: T told :: L)) (fun i _ => m - (intOf i).toNat)
  case atStart => exact ⟨0, s0, [s0], by omega, rfl, HGO, by simp, rfl, S7⟩
  case round =>
    clear S7 HGO
    obtain ⟨k, s, told, hk, rfl, HG, htl, HE, S9⟩ := hrel
    have k0 : (0 : Int) ≤ (k : Int) := Int.natCast_nonneg _
    by_cases hlt : k < m
    · obtain ⟨x, hx⟩ : ∃ x, ps[k]? = some x := ⟨ps[k]'(by rw [HM.out]; exact hlt), List.getElem?_eq_getElem _⟩
      have hpx := HPB.out x (List.mem_of_getElem? hx)
      obtain ⟨i0, i1⟩ := x
      have hpx0 : 0 ≤ i0 ∧ i0 < 65536 := hpx.1
      have hpx1 : 0 ≤ i1 ∧ i1 < 65536 := hpx.2
      have k1 : (k : Int) < (m : Int) := by omega
      obtain ⟨bb, off, rfl, p0, p1⟩ := pairsv_cells (HRB.out _ S9.tail.tail.tail) hx
      have HX := Lib.hid hx
      clear hx hpx
      have hso := HG.out.ok
      have hov := (svals_tail hso.len 1)
      simp only [List.getElem?_cons_zero, List.getElem?_cons_succ] at hov
      have S10 := S9.alloc [.int .u16 i0, .int .u16 i1] 39
      have cov := S10.cell 1 rfl 18
      rw [hov] at cov
      have HSL := Lib.hid (svals_length hso.len)
      clear hov
      cases ho : s.over with
      | true =>
        rw [ho] at cov
        go_wp2_with fail
        go_ret
        refine ⟨rfl, ?_⟩
        have HE' := HE.out
        rw [framesP_over ho, List.append_nil] at HE'
        rw [← HE']
        exact S10.tail.tail.tail
      | false =>
        rw [ho] at cov
        obtain ⟨t, hst, hgt, hfr⟩ := goes_step HC.out HG.out ho hpx0 hpx1
        have HST := Lib.hid hst
        have HGT := Lib.hid hgt
        have HTL := Lib.hid (svals_length hgt.ok.len)
        have hto := hgt.ok
        have HFR := framesP_on ho HX.out HST.out
        have HFR' := Lib.hid HFR
        have HGC := Lib.hid (fun (w' : World) (h : Sat W0 w' (blk wr.heap.size [.int .u16 i0, .int .u16 i1] 39 :: blk pq (svals s) 31 :: blk pg [.slice a n c, .int .i64 cap, .int .i64 fuel] 24 :: T told :: L)) => HR.out w' h.tail.tail.tail.tail)
        clear HFR hst hgt hfr
        have g10 := gat (S10.sel [2])
        go_wp2_with (first
          | (refine wpList_load_part rfl 31 _ rfl (n := 20) rfl (Sat.whole (S10.sel [1]) 20) HSL.out Try.underlying31 rfl Try.sizeS ?_)
          | (go_at_call 23; refine (vStep_any S10 HGC.out HN.out hnm cap fuel hso i0 i1 hpx0 hpx1).mono ?_; unfold Stepped; rintro e w3 ⟨rfl, S11⟩; rw [HST.out]; have S12 := S11.alloc [.int .i64 0, .int .i32 0, .int .i32 0, .int .i32 0, .int .i32 0, .int .i32 0, .int .i32 0, .int .i32 0, .int .i32 0, .int .i32 0, .int .i32 0, .int .i32 0, .int .i32 0, .int .i32 0, .int .i32 0, .int .i32 0, .int .i32 0, .int .u32 0, .bool false, .int .i64 0] 31)
          | (refine wpList_store_sat (off := 0) (n := 20) rfl 31 _ _ rfl S12 rfl rfl HTL.out (by decide) Try.sizeS (svals_one t) ?_; intro w4 S13; rw [zstore] at S13)
          | (refine wpList_load_part rfl 31 _ rfl (n := 20) rfl (Sat.whole S13 20) HTL.out Try.underlying31 rfl Try.sizeS ?_)
          | (refine wpList_store_sat (off := 0) (n := 20) rfl 31 _ _ rfl (S13.sel [2]) rfl rfl HTL.out (by rw [HSL.out]; decide) Try.sizeS (svals_one t) ?_; intro w5 S14; rw [sstore HSL.out] at S14)
          | (refine wpList_load_part rfl 31 _ rfl (n := 20) rfl (Sat.whole S14 20) HTL.out Try.underlying31 rfl Try.sizeS ?_)
          | (refine (HT.out _ _ _ _ hto (by omega) (S14.sel [4])).mono ?_; unfold Toldd; rintro e w6 ⟨rfl, S15⟩))
        refine ⟨⟨k + 1, t, told ++ [t], by omega, by simp, HGT, by simp; omega, ?_, (((S15.sel [2]).tail.sel [2]).tail).sel [1, 1]⟩, by simp [intOf]; omega⟩
        have HE' := HE.out
        rw [HFR'.out] at HE'
        rw [← HE', List.append_assoc]
        rfl
    · have hkm : k = m := by omega
      subst hkm
      go_wp2_with fail
      go_ret
      refine ⟨rfl, ?_⟩
      have HE' := HE.out
      rw [List.drop_of_length_le (Nat.le_of_eq HM.out), framesP, List.append_nil] at HE'
      rw [← HE']
      exact S9.tail.tail
end Go.Proofs.Ytpcffejanlokiaa
