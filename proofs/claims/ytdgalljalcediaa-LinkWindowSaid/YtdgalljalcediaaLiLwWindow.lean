/-
  The law LinkWindow, walked.
-/
import Derived.Test.YtdgalljalcediaaLiK
import Derived.Test.YtdgalljalcediaaLiI
import Derived.Test.YtdgalljalcediaaLiW
namespace Go.Proofs.Ytdgalljalcediaa
open Go.RowKit Go.Sep Go.Oct
set_option linter.unusedSimpArgs false

theorem rowsB_join {W0 w : World} : ∀ {L : List Asn} {hs ks : List Hd} {rs qs : List (List Int)}, Sat W0 w (rowsB hs rs :: rowsB ks qs :: L) → Sat W0 w (rowsB (hs ++ ks) (rs ++ qs) :: L)
  | L, [], ks, [], qs, S => S.tail
  | L, h :: hs, ks, r :: rs, qs, S => by
    have S1 := Sat.star.1 S
    obtain ⟨h1, S2⟩ := Sat.pure.1 S1.swap
    have S3 := rowsB_join (L := sbs h.1 r.length h.2.2 r :: L) (S2.sel [0, 1])
    exact Sat.star.2 (Sat.swap (Sat.pure.2 ⟨h1, S3⟩))
  | L, [], _, _ :: _, _, S => absurd (Sat.pure.1 S).1 id
  | L, _ :: _, _, [], _, S => absurd (Sat.pure.1 S).1 id
theorem brs_join {W0 w : World} {L : List Asn} {ao : Option Addr} {n m cap : Nat} {hs ks : List Hd} {rs qs : List (List Int)} (h1 : rs.length = n) (h2 : qs.length = m)
    (S : Sat W0 w (slc 29 1 ao (n + m) cap (hs.map hv ++ ks.map hv) :: rowsB hs rs :: rowsB ks qs :: L)) : Sat W0 w (brs ao (n + m) cap (rs ++ qs) :: L) := by
  have S1 := rowsB_join (S.sel [1, 1])
  rw [← List.map_append] at S1
  exact brs_in (by rw [List.length_append, h1, h2]) S1.swap
theorem Sat.three {W0 w : World} {A B C : Asn} {L : List Asn} (S : Sat W0 w (A :: B :: C :: L)) : Sat W0 w [A, B, C] := ⟨S.below, star_mono (fun _ h => h) (fun _ => star_mono (fun _ h => h) (fun _ => star_mono (fun _ h => h) (fun _ _ => True.intro))) S.own⟩
def SentW (W0 : World) (L : List Asn) (g : Nat) (o : List (List Int)) (s : LS) (e : Ending) (w' : World) : Prop :=
  ∃ ao cap, e = .returned (.tuple #[.slice ao o.length cap, .int .i64 0]) ∧ Sat W0 w' (brs ao o.length cap o :: PL g s :: L)
theorem sendW_any {W0 w : World} {L : List Asn} {g k : Nat} (S : Sat W0 w (PL g (PS 4 (rsT k)) :: L)) (hk : k < 60) {a : Option Addr} {c : Nat} (hR : Rd w a (bv [(k : Int)])) (h0 : a = none → c = 0) :
    Calls Try.prog 14 #[.pointer (some ⟨g, 0, none⟩), .slice a 1 c] w (SentW W0 L g (if k < 16 then [wPk k] else []) (PS 4 (rsT (k + 1)))) := by
  refine (send_any S (PS_ok (by unfold I64; omega) (by rw [rsT_length]; omega) (rsT_row (by omega))) (by omega) hR rfl h0 (fun x hx => by rw [List.mem_singleton.1 hx]; omega) (by simp)).mono ?_
  obtain ⟨h1, h2, h3, h4⟩ := send_PS (id := 4) (rs := rsT k) (p := [(k : Int)]) (by simp) (by rw [rsT_length]; omega)
  rw [rsT_length] at h3 h4
  have hout : (sendP (PS 4 (rsT k)) [(k : Int)]).1 = if k < 16 then [wPk k] else [] := by
    by_cases h : k < 16
    · rw [if_pos h, h4 h]; rfl
    · rw [if_neg h] at h3 ⊢; exact List.eq_nil_of_length_eq_zero h3
  rintro e w' ⟨ao, cap, rfl, S1⟩
  rw [h1, hout, ← rsT_succ] at S1
  rw [h2, hout]
  exact ⟨ao, cap, rfl, S1⟩

set_option maxRecDepth 100000 in
set_option maxHeartbeats 6400000 in
theorem LinkWindow_walk {w : World} {x y : Int} (hx : I64 x) (hy : I64 y) :
    Calls Try.prog 3 #[.int .i64 x, .int .i64 y] w fun e w' => e = .returned (.bool true) ∧ Below w.heap.size w w' := by
  have S0 := Sat.start w
  by_cases b0 : x < 0
  · have b0' : decide (x < 0) = true := decide_eq_true b0
    clear b0
    go_enter Try.func3, Try.ntmps3
    go_wp2_with (first | (go_at_call 12; refine (known_any S0).mono ?_; rintro e w8 ⟨rfl, S8⟩))
    go_ret
    exact ⟨rfl, S8.below⟩
  have b0' : decide (x < 0) = false := decide_eq_false b0
  by_cases b1 : 60 < x
  · have b1' : decide (60 < x) = true := decide_eq_true b1
    clear b0 b1
    go_enter Try.func3, Try.ntmps3
    go_wp2_with (first | (go_at_call 12; refine (known_any S0).mono ?_; rintro e w8 ⟨rfl, S8⟩))
    go_ret
    exact ⟨rfl, S8.below⟩
  have b1' : decide (60 < x) = false := decide_eq_false b1
  by_cases b2 : y < 0
  · have b2' : decide (y < 0) = true := decide_eq_true b2
    clear b0 b1 b2
    go_enter Try.func3, Try.ntmps3
    go_wp2_with (first | (go_at_call 12; refine (known_any S0).mono ?_; rintro e w8 ⟨rfl, S8⟩))
    go_ret
    exact ⟨rfl, S8.below⟩
  have b2' : decide (y < 0) = false := decide_eq_false b2
  by_cases b3 : x < y
  · have b3' : decide (x < y) = true := decide_eq_true b3
    clear b0 b1 b2 b3
    go_enter Try.func3, Try.ntmps3
    go_wp2_with (first | (go_at_call 12; refine (known_any S0).mono ?_; rintro e w8 ⟨rfl, S8⟩))
    go_ret
    exact ⟨rfl, S8.below⟩
  have b3' : decide (x < y) = false := decide_eq_false b3
  obtain ⟨n, rfl⟩ : ∃ n : Nat, x = n := ⟨x.toNat, by omega⟩
  obtain ⟨q, rfl⟩ : ∃ q : Nat, y = q := ⟨y.toNat, by omega⟩
  have hn60 : n ≤ 60 := by omega
  have hqn : q ≤ n := by omega
  obtain ⟨i0, hi, hz0, hz1, hz2⟩ := info_parts Try.infoR
  clear hx hy
  go_enter Try.func3, Try.ntmps3
  go_wp2_with (first
    | (go_at_call 13; refine (new_any S1 4).mono ?_; rintro e w2 ⟨gb, rfl, S2⟩)
    | (go_at_call 13; refine (new_any S0 4).mono ?_; rintro e w1 ⟨ga, rfl, S1⟩))
  clear b0' b1' b2' b3' b0 b1 b2 b3
  go_loopw [7, 8] (fun o i wr => ∃ (k m : Nat) (ao : Option Addr) (cp : Nat), k ≤ n ∧ i = .int .i64 k ∧ o = .slice ao m cp ∧ m ≤ 16 ∧ Hid (m = min k 16) ∧ Sat w wr (PL ga (PS 4 (rsT k)) :: PL gb (LS.new 4) :: brs ao m cp (wOut 0 m) :: [])) (fun _ i _ => n - (intOf i).toNat)
  case atStart => exact ⟨0, 0, none, 0, by omega, rfl, rfl, by omega, rfl, (brs_none S2).sel [2, 1]⟩
  case round =>
    clear S1 S2
    obtain ⟨k, m, ao, cp, hk, rfl, rfl, hm16, HM, S3⟩ := hrel
    by_cases hlt : k < n
    · have hd : decide ((k : Int) < (n : Int)) = true := decide_eq_true (by omega)
      have hcv : IntKind.u8.wrap (k : Int) = (k : Int) := by simp [IntKind.wrap, IntKind.bits, IntKind.signed]; omega
      have hw : IntKind.i64.wrap ((k : Int) + 1) = (k : Int) + 1 := by rw [IntKind.wrap_i64]; omega
      have S4 := S3.alloc [.int .u8 (k : Int)] 5
      clear S3
      by_cases h16 : k < 16
      · have hd2 : decide ((k : Int) < 16) = true := decide_eq_true (by omega)
        have H16 := Lib.hid h16
        clear h16
        go_wp2_with (first
          | (go_at_call 14; refine (sendW_any (S4.sel [1]) (by omega) (Rd.lit (S4.block 0 rfl).1) (fun h => nomatch h)).mono ?_; unfold SentW; rw [if_pos H16.out]; rintro e w4 ⟨oa, oc, rfl, S5⟩; dsimp only [List.length_cons, List.length_nil] at S5 ⊢; obtain ⟨ho, -, hlo, S6⟩ := brs_out S5; obtain ⟨hs, hns, hls, S7⟩ := brs_out (S6.sel [5]))
          | (at_builtin; refine wpList_append_sat rfl (.tmp 69) (.tmp 70) _ rfl 29 i0 _ 1 24 Try.underlying25 hi hz0 hz1 hz2 rfl (by decide) S7 rfl rfl (S7.sel [2]).own_rd (by rw [List.length_map, hlo]) (hv_one _) (by unfold maxLen; omega) (by omega) ?_; intro ao8 cp8 w8 S8))
        have S9 := brs_join (m := 1) (qs := [wPk k]) (wOut_length 0 m) rfl (S8.sel [0, 0, 1])
        have em : m = k := by have := HM.out; have := H16.out; omega
        refine ⟨⟨k + 1, m + 1, ao8, cp8, by omega, by go_num, rfl, by have := H16.out; omega, by show _ = _; have := H16.out; omega, ?_⟩, by simp [intOf]; omega⟩
        rw [wOut_snoc, Nat.zero_add, em]
        rw [em] at S9
        exact Sat.three (S9.sel [2, 3, 0])
      · have hd2 : decide ((k : Int) < 16) = false := decide_eq_false (by omega)
        have H16 := Lib.hid h16
        clear h16
        go_wp2_with (first
          | (go_at_call 14; refine (sendW_any (S4.sel [1]) (by omega) (Rd.lit (S4.block 0 rfl).1) (fun h => nomatch h)).mono ?_; unfold SentW; rw [if_neg H16.out]; rintro e w4 ⟨oa, oc, rfl, S5⟩; dsimp only [List.length_cons, List.length_nil] at S5 ⊢; obtain ⟨ho, -, hlo, S6⟩ := brs_out S5; obtain ⟨hs, hns, hls, S7⟩ := brs_out (S6.sel [5]))
          | (at_builtin; refine wpList_append_sat rfl (.tmp 69) (.tmp 70) _ rfl 29 i0 _ 1 24 Try.underlying25 hi hz0 hz1 hz2 rfl (by decide) S7 rfl rfl (S7.sel [2]).own_rd (by rw [List.length_map, hlo]) (hv_one _) (by unfold maxLen; omega) (by omega) ?_; intro ao8 cp8 w8 S8))
        have S9 := brs_join (m := 0) (qs := []) (wOut_length 0 m) rfl (S8.sel [0, 0, 1])
        have em : m = min (k + 1) 16 := by have := HM.out; have := H16.out; omega
        refine ⟨⟨k + 1, m, ao8, cp8, by omega, by go_num, rfl, by omega, em, ?_⟩, by simp [intOf]; omega⟩
        rw [List.append_nil, Nat.add_zero] at S9
        exact Sat.three (S9.sel [2, 3, 0])
    · have hd : decide ((k : Int) < (n : Int)) = false := decide_eq_false (by omega)
      obtain rfl : k = n := by omega
      have S4 : Sat w wr (PL ga (AW k 0) :: PL gb (BW 0) :: brs ao m cp (wOut 0 m) :: []) := by rw [AW_zero]; exact S3
      have em0 : m = min (k - 0) 16 := by rw [HM.out]; rfl
      have HM0 := Lib.hid em0
      clear S3 hd hlt hk em0
      go_wp2_with fail
      go_loopw [7, 11, 12] (fun o c i wr => ∃ (j m : Nat) (ao : Option Addr) (cp : Nat), j ≤ q ∧ c = .int .i64 j ∧ i = .int .i64 j ∧ o = .slice ao m cp ∧ m ≤ 16 ∧ Hid (m = min (k - j) 16) ∧ Sat w wr (PL ga (AW k j) :: PL gb (BW j) :: brs ao m cp (wOut j m) :: [])) (fun _ _ i _ => q - (intOf i).toNat)
      case atStart => exact ⟨0, m, ao, cp, by omega, rfl, rfl, rfl, by omega, HM0.out, S4⟩
      case round =>
        clear S4 HM HM0 hm16
        obtain ⟨j, m, ao, cp, hj, rfl, rfl, rfl, hm16, HM, S5⟩ := hrel
        by_cases hlt : j < q
        · have hd : decide ((j : Int) < (q : Int)) = true := decide_eq_true (by omega)
          have hm1 : 1 ≤ m := by have := HM.out; omega
          have hd2 : decide ((0 : Int) < (m : Int)) = true := decide_eq_true (by omega)
          have hd3 : 0 < m := by omega
          have hcv : IntKind.u8.wrap (j : Int) = (j : Int) := by simp [IntKind.wrap, IntKind.bits, IntKind.signed]; omega
          have hw : IntKind.i64.wrap ((j : Int) + 1) = (j : Int) + 1 := by rw [IntKind.wrap_i64]; omega
          obtain ⟨m', rfl⟩ : ∃ m', m = m' + 1 := ⟨m - 1, by omega⟩
          obtain ⟨nd, hnd⟩ : ∃ nd, k - (j + 1) = nd := ⟨_, rfl⟩
          have hws : IntKind.i64.wrap ((k : Int) - ((j : Int) + 1)) = (nd : Int) := by rw [IntKind.wrap_i64]; omega
          obtain ⟨mn, hmn⟩ : ∃ mn, min nd 16 = mn := ⟨_, rfl⟩
          have hif : (if (nd : Int) < 16 then (nd : Int) else 16) = (mn : Int) := by rw [← hmn]; split <;> omega
          have hif2 : (if (16 : Int) ≤ (nd : Int) then (16 : Int) else (nd : Int)) = (mn : Int) := by rw [← hmn]; split <;> omega
          have hhb := hear_bW (n := k) (j := j) (by omega) (by omega)
          have hha := hear_aW (n := k) (j := j) (by omega) (by omega)
          obtain ⟨ps, hps⟩ : ∃ ps, (if j + 16 < k then [wPk (j + 16)] else []) = ps := ⟨_, rfl⟩
          rw [hps] at hha
          have hpl : m' + ps.length = mn := by
            have := HM.out
            rw [← hps, ← hmn]
            split
            · simp only [List.length_singleton]; omega
            · simp only [List.length_nil]; omega
          have hpw : wOut (j + 1) m' ++ ps = wOut (j + 1) mn := by
            rw [← hpl, ← hps]
            have := HM.out
            by_cases h16 : j + 16 < k
            · rw [if_pos h16, List.length_singleton, wOut_snoc, show j + 16 = j + 1 + m' by omega]
            · rw [if_neg h16, List.length_nil, List.append_nil]; rfl
          have hrows := AW_rows k (j + 1)
          rw [hnd] at hrows
          have HWPK := packP_length (id := 4) (n := (j : Int) + 1) (came := 0) (row := [(j : Int)]) (by simp)
          have HWPB : Bytes (wPk j) := packP_bytes (by unfold I64; omega) (by unfold I64; omega) (by unfold I64; omega) (fun x hx => by rw [List.mem_singleton.1 hx]; omega) (by simp)
          obtain ⟨ak, hak⟩ : ∃ ak, packP 4 0 ((j : Int) + 1) [] = ak := ⟨_, rfl⟩
          have hkl := packP_length (id := 4) (n := 0) (came := (j : Int) + 1) (row := []) (by simp)
          have hkb : Bytes (packP 4 0 ((j : Int) + 1) []) := packP_bytes (by unfold I64; omega) (by unfold I64; omega) (by unfold I64; omega) (fun x hx => by simp at hx) (by simp)
          rw [hak] at hha hhb hkl hkb
          obtain ⟨pk, hpk⟩ : ∃ pk, wPk j = pk := ⟨_, rfl⟩
          have hpk2 : packP 4 ((j : Int) + 1) 0 [(j : Int)] = pk := hpk
          rw [hpk2] at HWPK
          rw [hpk] at hhb HWPB
          rw [wOut_cons, hpk] at S5
          have HHB := Lib.hid (fun (w' : World) (L : List Asn) (a : Option Addr) (c : Nat) (h : Sat w w' (PL gb (BW j) :: L)) (hR : ∀ w', Sat w w' L → Rd w' a (bv pk)) (hc : pk.length ≤ c) => show Calls Try.prog 15 #[.pointer (some ⟨gb, 0, none⟩), .slice a pk.length c] w' (HeardP w L gb ([[(j : Int)]], [ak], BW (j + 1))) by
            have := hear_any h (BW_ok (by omega)) (by omega) hR rfl HWPB hc (by simp at HWPK; omega); rw [hhb] at this; exact this)
          have HHA := Lib.hid (fun (w' : World) (L : List Asn) (a : Option Addr) (c : Nat) (h : Sat w w' (PL ga (AW k j) :: L)) (hR : ∀ w', Sat w w' L → Rd w' a (bv ak)) (hc : ak.length ≤ c) => show Calls Try.prog 15 #[.pointer (some ⟨ga, 0, none⟩), .slice a ak.length c] w' (HeardP w L ga ([], ps, AW k (j + 1))) by
            have := hear_any h (AW_ok (by omega) (by omega)) (by omega) hR rfl hkb hc (by simp at hkl; omega); rw [hha] at this; exact this)
          have HPW := Lib.hid hpw
          have HPL := Lib.hid hpl
          have HROWS := Lib.hid hrows
          have hmn16 : mn ≤ 16 := by omega
          have HND := Lib.hid hnd
          have HMN := Lib.hid hmn
          have hjj : ((j : Int) != (j : Int)) = false := by simp
          have hmm : ((mn : Int) != (mn : Int)) = false := by simp
          have hnn : ((nd : Int) != (nd : Int)) = false := by simp
          obtain ⟨hs, -, hls, S6⟩ := brs_out (S5.sel [2])
          clear hhb hha hps hpl hpw hrows HWPK HWPB hak hkl hkb hpk hpk2 hnd hmn S5
          cases hs with
          | nil => simp at hls
          | cons hd ht =>
          obtain ⟨b6, o6, rfl, -⟩ := S6.own_rd 0 (hv hd) rfl
          have hlc := S6.own_len.2.1
          obtain ⟨xa, xc, hx1, -, hx3, hx4⟩ := rowsB_at (S6.sel [1]) (i := 0) (r := pk) rfl
          have hx1' : hd = (xa, pk.length, xc) := by simpa using hx1
          subst hx1'
          have c6 := S6.own_rd.at (j := 0) (u := .slice xa pk.length xc) rfl
          rw [Nat.add_zero] at c6
          have HR6 := Lib.hid (fun (w' : World) (L : List Asn) (h : Sat w w' (slc 29 1 (some ⟨b6, o6, none⟩) (m' + 1) cp (((xa, pk.length, xc) :: ht).map hv) :: rowsB ((xa, pk.length, xc) :: ht) (pk :: wOut (j + 1) m') :: L)) => show Rd w' xa (bv pk) by
            obtain ⟨ya, yc, hy, hr, -, -⟩ := rowsB_at (h.sel [1]) (i := 0) (r := pk) rfl
            cases hy
            exact hr)
          clear hx1 hls
          by_cases hc1 : cp = 1
          · subst hc1
            obtain rfl : m' = 0 := by omega
            obtain rfl : ht = [] := by
              have := S6.own_len.1
              simp at this
              exact this
            go_wp2_with (first
              | (go_at_call 15; refine (HHA.out _ _ _ _ (S10.sel [7]) (fun w' h => (H10 _ _ h).2) i10).mono ?_; unfold HeardP; rintro e w12 ⟨r12, s12, p12, c12, rfl, S12⟩; dsimp only at S12 ⊢; obtain ⟨hp, -, hlp, S13⟩ := brs_out (S12.sel [1]); have S14 := (own_last (S13.sel [9])).2.2; have S15 := rowsB_tail (S14.sel [10]); have S16 := S15.swap)
              | (go_at_call 15; refine (HHB.out _ _ _ _ (S6.sel [3]) (fun w' h => HR6.out _ _ h) hx3).mono ?_; unfold HeardP; rintro e w8 ⟨r8, s8, p8, c8, rfl, S8⟩; dsimp only [List.length_cons, List.length_nil] at S8 ⊢; obtain ⟨b9, o9, x9, c9, hs9, rfl, i9, j9, k9, -, S9, H9⟩ := brs_at (i := 0) S8 rfl; have d9 := (H9 _ _ S9).1; simp only [Nat.add_zero, List.length_cons, List.length_nil, Nat.zero_add] at d9; obtain ⟨b9', o9', rfl, d9'⟩ := (H9 _ _ S9).2 0 (.int .u8 (j : Int)) rfl; simp only [Nat.add_zero] at d9'; obtain ⟨b10, o10, x10, c10, hs10, rfl, i10, j10, k10, -, S10, H10⟩ := brs_at (i := 0) (S9.sel [2]) rfl; have d11 := (H10 _ _ S10).1; simp only [Nat.add_zero] at d11)
              | (at_builtin; refine wpList_append_sat rfl (.tmp 127) (.tmp 128) _ rfl 29 i0 _ 1 24 Try.underlying25 hi hz0 hz1 hz2 rfl (by decide) S16 rfl rfl (S16.sel [2]).own_rd (by rw [List.length_map, hlp, Nat.mul_one]) (hv_one _) (by rw [HPL.out]; unfold maxLen; omega) (by rw [HPL.out]; omega) ?_; intro ao17 cp17 w17 S17; have S18 := brs_join (hs := []) (wOut_length (j + 1) 0) rfl (S17.sel [0, 0, 1]); rw [HPW.out, HPL.out] at S18; rw [HPL.out])
              | (go_at_call 16; refine (left_any (S18.sel [3])).mono ?_; rw [HROWS.out]; rintro e w19 ⟨rfl, S19⟩))
            exact ⟨⟨j + 1, mn, ao17, cp17, by omega, by go_num, by go_num, rfl, by omega, by show _ = _; have := HMN.out; have := HND.out; omega, Sat.three (S19.sel [0, 7, 0])⟩, by simp [intOf]; omega⟩
          · have hc2 : 1 < cp := by omega
            go_wp2_with (first
              | (go_at_call 15; refine (HHA.out _ _ _ _ (S10.sel [7]) (fun w' h => (H10 _ _ h).2) i10).mono ?_; unfold HeardP; rintro e w12 ⟨r12, s12, p12, c12, rfl, S12⟩; dsimp only at S12 ⊢; obtain ⟨hp, -, hlp, S13⟩ := brs_out (S12.sel [1]); have S14 := own_next (S13.sel [9]); have S15 := rowsB_tail (S14.sel [10]); have S16 := S15.swap)
              | (go_at_call 15; refine (HHB.out _ _ _ _ (S6.sel [3]) (fun w' h => HR6.out _ _ h) hx3).mono ?_; unfold HeardP; rintro e w8 ⟨r8, s8, p8, c8, rfl, S8⟩; dsimp only [List.length_cons, List.length_nil] at S8 ⊢; obtain ⟨b9, o9, x9, c9, hs9, rfl, i9, j9, k9, -, S9, H9⟩ := brs_at (i := 0) S8 rfl; have d9 := (H9 _ _ S9).1; simp only [Nat.add_zero, List.length_cons, List.length_nil, Nat.zero_add] at d9; obtain ⟨b9', o9', rfl, d9'⟩ := (H9 _ _ S9).2 0 (.int .u8 (j : Int)) rfl; simp only [Nat.add_zero] at d9'; obtain ⟨b10, o10, x10, c10, hs10, rfl, i10, j10, k10, -, S10, H10⟩ := brs_at (i := 0) (S9.sel [2]) rfl; have d11 := (H10 _ _ S10).1; simp only [Nat.add_zero] at d11)
              | (at_builtin; refine wpList_append_sat rfl (.tmp 127) (.tmp 128) _ rfl 29 i0 _ 1 24 Try.underlying25 hi hz0 hz1 hz2 rfl (by decide) S16 rfl rfl (S16.sel [2]).own_rd (by rw [List.length_map, hlp, Nat.mul_one]) (hv_one _) (by rw [HPL.out]; unfold maxLen; omega) (by rw [HPL.out]; omega) ?_; intro ao17 cp17 w17 S17; have S18 := brs_join (wOut_length (j + 1) _) rfl (S17.sel [0, 0, 1]); rw [HPW.out, HPL.out] at S18; rw [HPL.out])
              | (go_at_call 16; refine (left_any (S18.sel [3])).mono ?_; rw [HROWS.out]; rintro e w19 ⟨rfl, S19⟩))
            exact ⟨⟨j + 1, mn, ao17, cp17, by omega, by go_num, by go_num, rfl, by omega, by show _ = _; have := HMN.out; have := HND.out; omega, Sat.three (S19.sel [0, 7, 0])⟩, by simp [intOf]; omega⟩
        · have hd : decide ((j : Int) < (q : Int)) = false := decide_eq_false (by omega)
          obtain rfl : j = q := by omega
          have hjj : ((j : Int) == (j : Int)) = true := by simp
          go_wp2_with (first
            | (go_at_call 12; refine (known_any S5).mono ?_; rintro e w9 ⟨rfl, S9⟩))
          go_ret
          exact ⟨rfl, S9.below⟩
end Go.Proofs.Ytdgalljalcediaa
