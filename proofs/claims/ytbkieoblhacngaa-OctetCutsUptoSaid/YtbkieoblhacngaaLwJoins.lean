/-
  The law OctetJoins, walked.
-/
import Derived.Test.YtbkieoblhacngaaLwLays
namespace Go.Proofs.Ytbkieoblhacngaa
open Go.RowKit Go.Sep Go.Oct

theorem Try.infoF : (Try.prog.info? 44).map (fun i => (i.zero, i.size, i.bytes)) = some (some (.agg (zF).toArray), 35, 72) := by kernel_rfl

/-- the same field, as bytes -/
def f5 (f : Fd) : Fd := { f with kind := 5 }
theorem f5_good {w : World} {f : Fd} (h : Good w f) : Good w (f5 f) := { h with kind := by show -9223372036854775808 ≤ (5 : Int) ∧ (5 : Int) < 9223372036854775808; omega }
def bbs (l : List Fd) : List Int := fbs (l.map f5)
theorem fb_f5 (f : Fd) : fb (f5 f) = num f.bs.length ++ f.bs := by
  have k : (f5 f).kind = 5 := rfl
  unfold fb
  rw [if_neg (by omega), if_neg (by omega), if_neg (by omega), if_neg (by omega), if_pos k]
  rfl
theorem bbs_append (a b : List Fd) : bbs (a ++ b) = bbs a ++ bbs b := by simp [bbs, fbs]
theorem bbs_one (f : Fd) : bbs [f] = num f.bs.length ++ f.bs := by
  show fbs [f5 f] = _
  rw [← fb_f5]; simp [fbs]
theorem bbs_take {l : List Fd} {k : Nat} {f : Fd} (h : l[k]? = some f) : bbs (l.take (k + 1)) = bbs (l.take k) ++ (num f.bs.length ++ f.bs) := by
  rw [List.take_add_one, h, bbs_append, ← bbs_one]; rfl
theorem bbs_drop {l : List Fd} {k : Nat} {f : Fd} (h : l[k]? = some f) : bbs (l.drop k) = fb (f5 f) ++ bbs (l.drop (k + 1)) := by
  obtain ⟨h1, h2⟩ := List.getElem?_eq_some_iff.1 h
  rw [show l.drop k = f :: l.drop (k + 1) by rw [← h2, List.getElem_cons_drop]]
  rfl
theorem f5_all {w : World} {l : List Fd} (h : ∀ f ∈ l, Good w f) : ∀ f ∈ l.map f5, Good w f := by
  intro f hf
  obtain ⟨g, hg, rfl⟩ := List.mem_map.1 hf
  exact f5_good (h g hg)
theorem f5_len {l : List Fd} {n : Nat} (h : ∀ f ∈ l, f.len ≤ n) : ∀ f ∈ l.map f5, f.len ≤ n := by
  intro f hf
  obtain ⟨g, hg, rfl⟩ := List.mem_map.1 hf
  exact h g hg
theorem sumL_f5 (l : List Fd) : sumL (l.map f5) = sumL l := by
  unfold sumL
  rw [List.map_map]; rfl
theorem fvs_append (a b : List Fd) : fvs (a ++ b) = fvs a ++ fvs b := by simp [fvs]
theorem fvs_length {w : World} : ∀ {l : List Fd}, (∀ f ∈ l, Good w f) → (fvs l).length = l.length * 35
  | [], _ => rfl
  | f :: r, h => by
    have h1 := fcells_length (h f (by simp))
    have h2 := fvs_length (l := r) (fun g hg => h g (by simp [hg]))
    show (fcells f ++ fvs r).length = _
    rw [List.length_append, h1, h2, List.length_cons]; omega
theorem fvs_one (l : List Fd) : ∀ u ∈ fvs l, u.oneCell' = true := by
  intro u hu
  obtain ⟨c, hc, hu⟩ := List.mem_flatten.1 hu
  obtain ⟨f, _, rfl⟩ := List.mem_map.1 hc
  exact fcells_one f u hu

theorem sbs_rd' {W0 w : World} {L : List Asn} {ao : Option Addr} {n cap : Nat} {bs : List Int} (S : Sat W0 w (slc 5 1 ao n cap (bv bs) :: L)) : Rd w ao (bv bs) := S.own_rd
/-- of a list of assertions the first two alone -/
theorem satTwo {W0 w : World} {A B : Asn} {L : List Asn} (S : Sat W0 w (A :: B :: L)) : Sat W0 w (A :: B :: []) :=
  S.map (fun _ hh => star_mono (fun _ h => h) (fun _ h => star_mono (fun _ h => h) (fun _ _ => True.intro) h) hh)
theorem satOne {W0 w : World} {A : Asn} {L : List Asn} (S : Sat W0 w (A :: L)) : Sat W0 w (A :: []) :=
  S.map (fun _ hh => star_mono (fun _ h => h) (fun _ _ => True.intro) hh)

set_option maxRecDepth 100000 in
set_option maxHeartbeats 1600000 in
theorem OctetJoins_walk {w : World} {a b : Option Addr} {m n ca cb : Nat} {la lb : List Fd} (hR : Rd w a (fvs la)) (hm : la.length = m) (hg : ∀ f ∈ la, Good w f) (hmm : m ≤ maxLen)
    (hR' : Rd w b (fvs lb)) (hm' : lb.length = n) (hg' : ∀ f ∈ lb, Good w f) (hmm' : n ≤ maxLen) :
    Calls Try.prog 5 #[.slice a m ca, .slice b n cb] w fun e w' => e = .returned (.bool true) ∧ Below w.heap.size w w' := by
  have S0 := Sat.start w
  cases hh : decide (3000 < hv 0 la) with
  | true =>
    have HH := Lib.hid hh
    clear hh
    go_enter Try.func5, Try.ntmps5
    go_wp2_with (go_at_call 21; refine (heavy_any hR hm hg hmm).mono ?_; rintro e w2 ⟨rfl, rfl⟩; rw [HH.out])
    go_ret
    exact ⟨rfl, S0.below⟩
  | false =>
  cases hh' : decide (3000 < hv 0 lb) with
  | true =>
    have HH := Lib.hid hh
    have HH' := Lib.hid hh'
    clear hh hh'
    go_enter Try.func5, Try.ntmps5
    have tok : True := trivial
    go_wp2_with (first
      | (go_at_call 21; have _t := tok; refine (heavy_any hR hm hg hmm).mono ?_; rintro e w2 ⟨rfl, rfl⟩; rw [HH.out]; clear tok)
      | (go_at_call 21; refine (heavy_any hR' hm' hg' hmm').mono ?_; rintro e w2 ⟨rfl, rfl⟩; rw [HH'.out]))
    go_ret
    exact ⟨rfl, S0.below⟩
  | false =>
    have hli := hv_light la 0 (by simpa using hh)
    have hli' := hv_light lb 0 (by simpa using hh')
    have hs := sumL_ge la
    have hs' := sumL_ge lb
    have hm3 : m ≤ 300 := by omega
    have hn3 : n ≤ 300 := by omega
    obtain ⟨l, hl⟩ : ∃ l, la ++ lb = l := ⟨_, rfl⟩
    have hgl : ∀ f ∈ l, Good w f := by
                                       intro f hf; rw [← hl] at hf
                                       rcases List.mem_append.1 hf with h | h
                                       · exact hg f h
                                       · exact hg' f h
    have hl3 : ∀ f ∈ l, f.len ≤ 3000 := by
                                          intro f hf; rw [← hl] at hf
                                          rcases List.mem_append.1 hf with h | h
                                          · have := hs.2 f h; omega
                                          · have := hs'.2 f h; omega
    have hll : l.length = m + n := by rw [← hl, List.length_append]; omega
    have hlm : l.take m = la := by rw [← hl, ← hm, List.take_left]
    have hbnd : ∀ k, (bbs (l.take k)).length ≤ 30000 := by
      intro k
      have h1 := fbs_length (f5_all hgl)
      have h2 : (bbs l).length = (bbs (l.take k)).length + (bbs (l.drop k)).length := by
        rw [← List.length_append, ← bbs_append, List.take_append_drop]
      have h3 : sumL (l.map f5) = sumL la + sumL lb := by rw [sumL_f5, ← hl]; simp [sumL]
      rw [List.length_map] at h1
      have h4 : (bbs l).length = (fbs (l.map f5)).length := rfl
      omega
    have HH := Lib.hid hh
    have HH' := Lib.hid hh'
    have HL := Lib.hid hl
    have HLL := Lib.hid hll
    have HM := Lib.hid hm
    have HM' := Lib.hid hm'
    have hRf : ∀ w' , Below w.heap.size w w' → Rd w' b (fvs lb) := fun w' h => hR'.below h
    have HRF := Lib.hid hRf
    have HFL := Lib.hid (fvs_length hg)
    have HFL' := Lib.hid (fvs_length hg')
    clear hh hh' hli hli' hs hs' hl hll hlm hRf
    obtain ⟨i0, hi, hz0, hz1, hz2⟩ := info_parts Try.infoF
    have SA : Sat w (w.alloc (.cells #[] 44)) (slc 44 35 (some ⟨w.heap.size, 0, none⟩) 0 0 [] :: []) :=
      Sat.own_new (post := []) (S0.alloc [] 44) rfl (Nat.le_refl _) (by unfold maxLen; omega) (by simp)
    have hRa := hR.below SA.below
    go_enter Try.func5, Try.ntmps5
    have tok : True := trivial
    go_wp2_with (first
      | (go_at_call 21; have _t := tok; refine (heavy_any hR hm hg hmm).mono ?_; rintro e w2 ⟨rfl, rfl⟩; rw [HH.out]; clear tok)
      | (go_at_call 21; refine (heavy_any hR' hm' hg' hmm').mono ?_; rintro e w2 ⟨rfl, rfl⟩; rw [HH'.out]; clear hm hm')
      | (at_builtin; refine wpList_append_sat rfl (.tmp 18) (.tmp 19) _ rfl 44 i0 (.agg zF.toArray) 35 72 Try.underlying38 hi hz0 hz1 hz2 rfl (by decide) SA rfl rfl hRa (by rw [HFL.out, HM.out]) (fvs_one _) (by unfold maxLen; omega) (by omega) ?_; intro ao1 cap1 w1 S1; simp only [Nat.zero_add, List.nil_append] at S1)
      | (at_builtin; refine wpList_append_sat rfl (.tmp 20) (.tmp 21) _ rfl 44 i0 (.agg zF.toArray) 35 72 Try.underlying38 hi hz0 hz1 hz2 rfl (by decide) S1 rfl rfl (HRF.out _ S1.below) (by rw [HFL'.out, HM'.out]) (fvs_one _) (by unfold maxLen; omega) (by omega) ?_; intro ao2 cap2 w2 S2; rw [← fvs_append, HL.out] at S2))
    have S3 := writer_new (writer_new (writer_new S2))
    simp only [World.size_alloc] at S3
    generalize hw3 : ((w2.alloc (.cells #[.slice none 0 0] 30)).alloc (.cells #[.slice none 0 0] 30)).alloc (.cells #[.slice none 0 0] 30) = w3 at S3 ⊢
    clear hw3
    generalize w2.heap.size = p at S3 ⊢
    have HRL := Lib.hid (fun (w' : World) (h : Below w.heap.size w w') f (hf : f ∈ l) => (hgl f hf).below h)
    go_loopw [9] (fun i wr => ∃ k : Nat, k ≤ m + n ∧ i = .int .i64 k ∧ Sat w wr (Wr p (bbs (l.take k)) :: Wr (p + 1) (bbs (l.take (min k m))) :: Wr (p + 1 + 1) (bbs ((l.drop m).take (k - m))) :: slc 44 35 ao2 (m + n) cap2 (fvs l) :: [])) (fun i _ => m + n - (intOf i).toNat)
    case atStart => exact ⟨0, by omega, rfl, by rw [Nat.zero_min, Nat.zero_sub, List.take_zero, List.take_zero]; exact S3.sel [2, 1, 0]⟩
    case round =>
      obtain ⟨k, hk, rfl, S4⟩ := hrel
      by_cases hlt : k < m + n
      · obtain ⟨f, hf⟩ : ∃ f, l[k]? = some f := ⟨l[k]'(by rw [HLL.out]; exact hlt), List.getElem?_eq_getElem _⟩
        have hgf := hgl f (List.mem_of_getElem? hf)
        have hlf := hl3 f (List.mem_of_getElem? hf)
        have hb1 := hbnd k
        have hb2 := hbnd (min k m)
        have hb3 : (bbs ((l.drop m).take (k - m))).length ≤ 30000 := by
          have h1 := hbnd k
          have h2 : (bbs (l.take k)).length = (bbs ((l.take k).take m)).length + (bbs ((l.take k).drop m)).length := by
            rw [← List.length_append, ← bbs_append, List.take_append_drop]
          rw [List.drop_take] at h2
          omega
        obtain ⟨bl, off, rfl, hc⟩ := fvs_cells (S4.sel [3]).own_rd (HRL.out _ S4.below) hf
        have c2 := hc 2 (by omega)
        simp only [fcells, List.getElem?_cons_succ, List.getElem?_cons_zero] at c2
        have HC := Lib.hid (fun w' (L : List Asn) (S : Sat w w' (slc 44 35 (some ⟨bl, off, none⟩) (m + n) cap2 (fvs l) :: L)) => by
          obtain ⟨_, _, h, hc⟩ := fvs_cells S.own_rd (HRL.out _ S.below) hf
          cases h
          have c2 := hc 2 (by omega)
          simp only [fcells, List.getElem?_cons_succ, List.getElem?_cons_zero] at c2
          exact c2)
        have hcap := (S4.sel [3]).own_len.2.1
        have HF := Lib.hid hf
        have HLF := Lib.hid hgf.len
        have hrdf : ∀ w', Below w.heap.size w w' → Rd w' f.ao (bv f.bs) := fun w' h => hgf.rd.below h
        have HRD := Lib.hid hrdf
        clear hf hc hrdf
        by_cases hkm : k < m
        · go_wp2_with (first
            | (go_at_call 22; refine (wBytes_any (S5.sel [1]) (xs := f.bs) (fun w' h => HRD.out _ h.below) HLF.out (by omega)).mono ?_; rintro e w5 ⟨rfl, S6⟩)
            | (go_at_call 22; refine (wBytes_any S4 (xs := f.bs) (fun w' h => HRD.out _ h.below) HLF.out (by omega)).mono ?_; rintro e w4 ⟨rfl, S5⟩; have c3 := HC.out _ _ (S5.sel [3])))
          go_roundw
          case rel =>
            refine ⟨k + 1, by omega, rfl, ?_⟩
            have e1 := bbs_take HF.out
            rw [← List.append_assoc] at e1
            rw [show min (k + 1) m = k + 1 by omega, show k + 1 - m = k - m by omega, e1]
            have S7 := S6.sel [1]
            rw [show min k m = k by omega] at S7
            exact S7
          case measure => simp [intOf]; omega
        · go_wp2_with (first
            | (go_at_call 22; refine (wBytes_any (S5.sel [2]) (xs := f.bs) (fun w' h => HRD.out _ h.below) HLF.out (by omega)).mono ?_; rintro e w5 ⟨rfl, S6⟩)
            | (go_at_call 22; refine (wBytes_any S4 (xs := f.bs) (fun w' h => HRD.out _ h.below) HLF.out (by omega)).mono ?_; rintro e w4 ⟨rfl, S5⟩; have c3 := HC.out _ _ (S5.sel [3])))
          go_roundw
          case rel =>
            refine ⟨k + 1, by omega, rfl, ?_⟩
            have e1 := bbs_take HF.out
            have e2 : (l.drop m)[k - m]? = some f := by rw [List.getElem?_drop, show m + (k - m) = k by omega]; exact HF.out
            have e3 := bbs_take e2
            rw [← List.append_assoc] at e1 e3
            rw [show min (k + 1) m = min k m by omega, show k + 1 - m = k - m + 1 by omega, e1, e3]
            exact S6.sel [1, 1]
          case measure => simp [intOf]; omega
      · have hbl := hbnd (m + n)
        have e0 : l.take (m + n) = l := List.take_of_length_le (by rw [HLL.out]; omega)
        have e1 : k = m + n := by omega
        rw [e1, e0, show min (m + n) m = m by omega, show m + n - m = n by omega, show (l.drop m).take n = l.drop m from List.take_of_length_le (by rw [List.length_drop, HLL.out]; omega)] at S4
        rw [e0] at hbl
        have hsum : bbs (l.take m) ++ bbs (l.drop m) = bbs l := by rw [← bbs_append, List.take_append_drop]
        have hsl : (bbs (l.take m)).length + (bbs (l.drop m)).length = (bbs l).length := by rw [← hsum, List.length_append]
        obtain ⟨x, hx⟩ : ∃ x, bbs (l.take m) = x := ⟨_, rfl⟩
        obtain ⟨y, hy⟩ : ∃ y, bbs (l.drop m) = y := ⟨_, rfl⟩
        have HX := Lib.hid hsum
        have hx0 := hbnd m
        rw [hx, hy] at S4 hsl HX
        rw [hx] at hx0
        have hxl : x.length ≤ 30000 := hx0
        have hyl : y.length ≤ 30000 := by omega
        have HSL := Lib.hid hsl
        clear e0 e1 hsum hsl hx hy hx0
        obtain ⟨j0, hj, hjz0, hjz1, hjz2⟩ := info_parts Try.infoB
        have HBL : Hid (l.drop 0 = l) := List.drop_zero
        have hBy : ∀ k, Bytes (bbs (l.drop k)) := fun k => fbs_bytes (f5_all (fun f hf => hgl f (List.mem_of_mem_drop hf))) (f5_len (fun f hf => hl3 f (List.mem_of_mem_drop hf)))
        have HBY := Lib.hid hBy
        clear hBy
        go_wp2_with (first
          | (go_at_call 16; refine (newReader_any S10 (sbs_rd S10).1 rfl (fun h => (S10.own_len.2.2.2 h).2) (by omega)).mono ?_; rintro e w11 ⟨q, rfl, S11⟩)
          | (go_at_call 15; refine (out_any (S9.sel [5]) (by omega)).mono ?_; rintro e w10 ⟨ao10, cap10, rfl, S10⟩)
          | (go_at_call 17; refine (same_any (sbs_rd (S8.sel [4])).1 (sbs_rd' S8) rfl List.length_append (by omega) (by omega)).mono ?_; rintro e w9 ⟨rfl, hq⟩; rw [decide_eq_true HX.out.symm]; have S9 := S8.quiet hq; clear hq)
          | (at_builtin; refine wpList_append_sat rfl (.tmp 52) (.tmp 53) _ rfl 5 j0 (.int .u8 0) 1 1 Try.underlying22 hj hjz0 hjz1 hjz2 rfl (by decide) (S7.sel [2]) rfl rfl S7.own_rd (by simp [bv_length]) (bv_one _) (by unfold maxLen; omega) (by omega) ?_; intro ao8 cap8 w8 S8; rw [← bv_append] at S8)
          | (go_at_call 15; refine (out_any (S6.sel [4]) (by omega)).mono ?_; rintro e w7 ⟨ao7, cap7, rfl, S7⟩)
          | (go_at_call 15; refine (out_any (S5.sel [2]) (by omega)).mono ?_; rintro e w6 ⟨ao6, cap6, rfl, S6⟩)
          | (go_at_call 15; refine (out_any S4 (by omega)).mono ?_; rintro e w5 ⟨ao5, cap5, rfl, S5⟩))
        have S12 : Sat w w11 (Rr q (bbs (l.drop 0)) 0 :: slc 44 35 ao2 (m + n) cap2 (fvs l) :: []) := by
          rw [HBL.out]
          exact satTwo (S11.sel [0, 7])
        clear S1 S2 S3 S4 S5 S6 S7 S8 S9 S10 S11
        have hk0 : (0 : Int) ≤ 0 := by omega
        go_loopw [11] (fun i wr => ∃ k : Nat, k ≤ m + n ∧ i = .int .i64 k ∧ Sat w wr (Rr q (bbs (l.drop k)) 0 :: slc 44 35 ao2 (m + n) cap2 (fvs l) :: [])) (fun i _ => m + n - (intOf i).toNat)
        case atStart => exact ⟨0, by omega, rfl, S12⟩
        case round =>
          obtain ⟨k2, hk2, rfl, S4⟩ := hrel
          by_cases hlt2 : k2 < m + n
          · obtain ⟨f, hf⟩ : ∃ f, l[k2]? = some f := ⟨l[k2]'(by rw [HLL.out]; exact hlt2), List.getElem?_eq_getElem _⟩
            have hgf := hgl f (List.mem_of_getElem? hf)
            have hlf := hl3 f (List.mem_of_getElem? hf)
            obtain ⟨bl, off, rfl, hc⟩ := fvs_cells (S4.sel [1]).own_rd (HRL.out _ S4.below) hf
            clear hc
            have HC := Lib.hid (fun w' (L : List Asn) (S : Sat w w' (slc 44 35 (some ⟨bl, off, none⟩) (m + n) cap2 (fvs l) :: L)) => by
              obtain ⟨_, _, h, hc⟩ := fvs_cells S.own_rd (HRL.out _ S.below) hf
              cases h
              have c2 := hc 2 (by omega)
              simp only [fcells, List.getElem?_cons_succ, List.getElem?_cons_zero] at c2
              exact c2)
            have hcap := (S4.sel [1]).own_len.2.1
            have HLF := Lib.hid hgf.len
            have hT : rdBytes (bbs (l.drop k2)) 0 = (f.bs, bbs (l.drop (k2 + 1)), 0) := by
              rw [bbs_drop hf]
              exact rd_bytes (f := f5 f) (f5_good hgf) hlf rfl _
            have T1 := Lib.hid hT
            have hByk := HBY.out k2
            have HRF := Lib.hid (fun (w' : World) (h : Below w.heap.size w w') => hgf.rd.below h)
            have k0 : (0 : Int) ≤ (k2 : Int) := Int.natCast_nonneg _
            have k1 : (k2 : Int) < (m : Int) + (n : Int) := by omega
            have k3 : (k2 : Int) < ((m + n : Nat) : Int) := by omega
            clear hT hf
            go_wp2_with fail
            have hc0 := HC.out _ _ (S4.drew.sel [1])
            go_region_held3 (fun w' => w'.cell? ⟨bl, off + k2 * 35 + 2, none⟩ = some (.slice f.ao f.len f.cap))
              (first
                | go_keep
                | exact HC.out _ _ (S6.sel [2])
                | exact HC.out _ _ (S7.sel [2]))
              (first
                | (go_at_call 17; refine (same_any (sbs_rd S6).1 (HRF.out _ S6.below) rfl HLF.out (by have := HLF.out; omega) (by omega)).mono ?_; rintro e w6 ⟨rfl, hq⟩; rw [decide_eq_true rfl]; have S7 := S6.quiet hq; clear hq)
                | (go_at_call 23; refine (rBytes_any S4.drew hByk).mono ?_; unfold Bytesd; rintro e w5 ⟨ao5, cap5, xs5, HX5, rfl, S6⟩; rw [T1.out] at S6 HX5; obtain rfl : xs5 = f.bs := HX5.out; clear HX5))
            go_wp2_with fail
            exact ⟨⟨k2 + 1, by omega, by go_num, S7.tail⟩, by simp [intOf]; omega⟩
          · have HE : Hid (bbs (l.drop k2) = []) := by show _ = _; rw [List.drop_of_length_le (by rw [HLL.out]; omega)]; rfl
            rw [HE.out] at S4
            go_wp2_with (first
              | (go_at_call 24; refine (end_any S4).mono ?_; rintro e w11 ⟨rfl, rfl⟩; rw [show endOf [] 0 = 0 from rfl])
              | (go_at_call 13; refine (known_any S4).mono ?_; rintro e w11 ⟨rfl, S11⟩))
            go_ret
            exact ⟨rfl, S11.below⟩
end Go.Proofs.Ytbkieoblhacngaa
