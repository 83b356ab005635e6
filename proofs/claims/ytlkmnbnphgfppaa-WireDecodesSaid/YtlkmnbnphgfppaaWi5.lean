/-
  wire: the document's take, Decode, DecodeReply.
-/
import Derived.Test.YtlkmnbnphgfppaaWi2
import Derived.Test.YtlkmnbnphgfppaaWi4
import Derived.Test.YtlkmnbnphgfppaaFr5
import Derived.Test.YtlkmnbnphgfppaaFr6
namespace Go.Proofs.Ytlkmnbnphgfppaa
open Go.RowKit Go.Sep Go.Oct
set_option linter.unusedSimpArgs false

theorem tk_fails {n : Nat} {bs : List Int} {e0 : Int} (h0 : e0 ≠ 0 → bs = []) (h : (tk n bs e0).2.2 ≠ 0) : (tk n bs e0).2.1 = [] := tk_err h0 h
def Took24 (W0 : World) (L : List Asn) (r : Int × Int × List Int × List Int × Int) (e : Ending) (w' : World) : Prop :=
  ∃ na nc da dc, e = .returned (.tuple #[.int .i64 r.1, .int .i64 r.2.1, .slice na r.2.2.1.length nc, .slice da r.2.2.2.1.length dc, .int .i64 r.2.2.2.2]) ∧ Sat W0 w' (nis na r.2.2.1.length nc r.2.2.1 :: sbs da r.2.2.2.1.length dc r.2.2.2.1 :: L)
theorem Took24_bad {W0 : World} {L : List Asn} {er : Int} {w' : World} (S : Sat W0 w' L) : Took24 W0 L (0, 0, [], [], er) (.returned (.tuple #[.int .i64 0, .int .i64 0, .slice none 0 0, .slice none 0 0, .int .i64 er])) w' :=
  ⟨none, 0, none, 0, rfl, Sat.own_none.2 ⟨rfl, rfl, rfl, Sat.own_none.2 ⟨rfl, rfl, rfl, S⟩⟩⟩

theorem endOf_eq (bs : List Int) (e : Int) : endOf bs e = endsF bs e := rfl
theorem rdNums_fails : ∀ (k : Nat) {bs : List Int} {e : Int}, (e ≠ 0 → bs = []) → (rdNums k bs e).2.2 ≠ 0 → (rdNums k bs e).2.1 = []
  | 0, _, _, h0, h => h0 h
  | k + 1, _, _, h0, h => rdNums_fails k (fun h2 => (rdNum_fails h0 h2).2) h

set_option maxRecDepth 100000 in
set_option maxHeartbeats 6400000 in
theorem take_any24 {W0 w : World} {L : List Asn} (S : Sat W0 w L) {a : Option Addr} {m c : Nat} {xs : List Int} (hR : ∀ w', Sat W0 w' L → Rd w' a (bv xs)) (hm : xs.length = m) (hB : Bytes xs) (hmc : m ≤ c) (hcm : c ≤ maxLen) (hb : m ≤ 1000000000) (mark least top : Int) (most : Nat) (hmo : most ≤ 1000000) :
    Calls Try.prog 29 #[.slice a m c, .int .u8 mark, .int .i64 least, .int .i64 top, .int .i64 most] w (Took24 W0 L (takeP mark least top most xs)) := by
  have HO := Lib.hid (open_any S hR hm hB hmc hcm hb)
  have hpb := open_bytes hB
  have hpl := open_length xs
  have HT : Hid (takeP mark least top most xs = if (openF xs).2 ≠ 0 then (0, 0, [], [], (openF xs).2)
      else if (partsOf (openF xs).1).many < 0 ∨ 80 < (partsOf (openF xs).1).many then (0, 0, [], [], 3)
      else if (partsOf (openF xs).1).fin ≠ 0 ∨ (partsOf (openF xs).1).mark ≠ mark ∨ maySay (partsOf (openF xs).1).kind least top (partsOf (openF xs).1).seq (partsOf (openF xs).1).nums.length (partsOf (openF xs).1).data.length most ≠ 0 then (0, 0, [], [], 3)
      else ((partsOf (openF xs).1).kind, (partsOf (openF xs).1).seq, (partsOf (openF xs).1).nums, (partsOf (openF xs).1).data, 0)) := rfl
  rw [hm] at hpl
  generalize takeP mark least top most xs = R at HT ⊢
  generalize openF xs = O at HO HT hpb hpl
  obtain ⟨p, oe⟩ := O
  simp only at HT hpb hpl
  clear hR hm hB
  by_cases hoe : oe = 0
  case neg =>
    have HR2 : Hid (R = (0, 0, [], [], oe)) := by show R = _; rw [HT.out, if_pos hoe]
    have he : (oe != 0) = true := by simpa using hoe
    clear HT hoe
    go_enter Try.func29, Try.ntmps29
    go_wp2_with (first
      | (go_at_call 44; refine HO.out.mono ?_; unfold Opened; rintro e w2 ⟨ao, cap, rfl, S2⟩))
    refine bodyPost_ret (by simp [results]; rfl) rfl ?_
    rw [HR2.out]
    exact Took24_bad S2.tail
  subst hoe
  have hT := HT.out
  rw [if_neg (by decide)] at hT
  obtain ⟨B1, s1, e1, h1⟩ : ∃ B1 s1 e1, tk 1 p 0 = (B1, s1, e1) := ⟨_, _, _, rfl⟩
  obtain ⟨B2, s2, e2, h2⟩ : ∃ B2 s2 e2, tk 1 s1 e1 = (B2, s2, e2) := ⟨_, _, _, rfl⟩
  obtain ⟨sq, s3, e3, h3⟩ : ∃ sq s3 e3, rdNum s2 e2 = (sq, s3, e3) := ⟨_, _, _, rfl⟩
  obtain ⟨mn, s4, e4, h4⟩ : ∃ mn s4 e4, rdNum s3 e3 = (mn, s4, e4) := ⟨_, _, _, rfl⟩
  have n1 : e1 ≠ 0 → s1 = [] := fun h => by have := tk_fails (n := 1) (bs := p) (e0 := 0) (fun h => absurd rfl h) (by rw [h1]; exact h); rw [h1] at this; exact this
  have n2 : e2 ≠ 0 → s2 = [] := fun h => by have := tk_fails (n := 1) n1 (by rw [h2]; exact h); rw [h2] at this; exact this
  have n3 : e3 ≠ 0 → s3 = [] := fun h => by have := (rdNum_fails n2 (by rw [h3]; exact h)).2; rw [h3] at this; exact this
  have n4 : e4 ≠ 0 → s4 = [] := fun h => by have := (rdNum_fails n3 (by rw [h4]; exact h)).2; rw [h4] at this; exact this
  have e1' : r1 p = (B1, s1, e1) := h1
  have e2' : r2 p = (B2, s2, e2) := by unfold r2; rw [e1']; exact h2
  have e3' : r3 p = (sq, s3, e3) := by unfold r3; rw [e2']; exact h3
  have e4' : r4 p = (mn, s4, e4) := by unfold r4; rw [e3']; exact h4
  obtain ⟨k1, hk1⟩ : ∃ k1, le B1 = k1 := ⟨_, rfl⟩
  obtain ⟨k2, hk2⟩ : ∃ k2, le B2 = k2 := ⟨_, rfl⟩
  have hpt : partsOf p = ⟨k1, k2, sq, mn, (rdNums mn.toNat s4 e4).1, (rdBytes (rdNums mn.toNat s4 e4).2.1 (rdNums mn.toNat s4 e4).2.2).1, endsF (rdBytes (rdNums mn.toNat s4 e4).2.1 (rdNums mn.toNat s4 e4).2.2).2.1 (rdBytes (rdNums mn.toNat s4 e4).2.1 (rdNums mn.toNat s4 e4).2.2).2.2⟩ := by
    have e5' : r5 p = rdNums mn.toNat s4 e4 := by unfold r5; rw [e4']
    have e6' : r6 p = rdBytes (rdNums mn.toNat s4 e4).2.1 (rdNums mn.toNat s4 e4).2.2 := by unfold r6; rw [e5']
    unfold partsOf
    rw [e1', e2', e3', e4', e5', e6', hk1, hk2]
  rw [hpt] at hT
  simp only at hT
  have H1 : Hid (le (tk 1 p 0).1 = k1 ∧ (tk 1 p 0).2.1 = s1 ∧ (tk 1 p 0).2.2 = e1) := by show _ ∧ _; rw [h1]; exact ⟨hk1, rfl, rfl⟩
  have H2 : Hid (le (tk 1 s1 e1).1 = k2 ∧ (tk 1 s1 e1).2.1 = s2 ∧ (tk 1 s1 e1).2.2 = e2) := by show _ ∧ _; rw [h2]; exact ⟨hk2, rfl, rfl⟩
  have k2b : 0 ≤ k2 ∧ k2 < 256 := by
    have := tk_one_bd (bs := s1) (e := e1) (by have := (tk_bytes (n := 1) 0 hpb).2; rw [h1] at this; exact this)
    rw [h2, hk2] at this; exact this
  have H3 := Lib.hid h3
  have H4 := Lib.hid h4
  have HDB := Lib.hid hpb
  have HT2 := Lib.hid hT
  clear hT HT hpt e1' e2' e3' e4' hk1 hk2 h1 h2 h3 h4 hpb
  go_enter Try.func29, Try.ntmps29
  go_upto_region 6 with (first
    | (go_at_call 44; refine HO.out.mono ?_; unfold Opened; rintro e w2 ⟨ao, cap, rfl, S2⟩; have hrd := S2.own_rd; have hol := S2.own_len; have S3 := S2.alloc [.slice ao p.length cap, .int .i64 0] 82; have R0 : Rest W0 (sbs ao p.length cap p :: L) ao p.length cap p := ⟨fun w' h => h.own_rd, rfl, hol.2.1, hol.2.2.1, HDB.out⟩; clear hol)
    | (go_at_call 45; refine (r1Byte_any (fun w' h => h) R4 n1 S4).mono ?_; unfold Given; rw [H2.out.1, H2.out.2.1, H2.out.2.2]; rintro e w5 ⟨a5, m5, c5, R5, rfl, S5⟩)
    | (go_at_call 45; refine (r1Byte_any (fun w' h => h) R0 (fun h => absurd rfl h) S3).mono ?_; unfold Given; rw [H1.out.1, H1.out.2.1, H1.out.2.2]; rintro e w4 ⟨a4, m4, c4, R4, rfl, S4⟩)
    | (go_at_call 46; refine (r1Num_any (fun w' h => h) R6 n3 S6).mono ?_; unfold Given; rw [H4.out]; rintro e w7 ⟨a7, m7, c7, R7, rfl, S7⟩)
    | (go_at_call 46; refine (r1Num_any (fun w' h => h) R5 n2 S5).mono ?_; unfold Given; rw [H3.out]; rintro e w6 ⟨a6, m6, c6, R6, rfl, S6⟩))
  generalize w2.heap.size = pr at S7 ⊢
  clear HO S2 S3 S4 S5 S6 hrd R0 R4 R5 R6 H1 H2 H3 H4 HDB n1 n2 n3
  by_cases gb : mn < 0 ∨ 80 < mn
  · have hR : R = (0, 0, [], [], 3) := by rw [HT2.out, if_pos gb]
    have HR := Lib.hid hR
    clear hR HT2
    have fin : Hid (∀ w', Sat W0 w' (R1 pr a7 m7 c7 e4 :: sbs ao p.length cap p :: L) → Took24 W0 L R (.returned (.tuple #[.int .i64 0, .int .i64 0, .slice none 0 0, .slice none 0 0, .int .i64 3])) w') := fun w' h => by rw [HR.out]; exact Took24_bad h.tail.tail
    by_cases g3 : mn < 0
    · have g3' : decide (mn < 0) = true := decide_eq_true g3
      clear gb g3 HR
      go_wp2_with fail
      exact bodyPost_ret (by simp [results]) rfl (fin.out _ S7)
    · have g3' : decide (mn < 0) = false := decide_eq_false g3
      have g4' : decide (80 < mn) = true := decide_eq_true (by omega)
      clear gb g3 HR
      go_wp2_with fail
      exact bodyPost_ret (by simp [results]) rfl (fin.out _ S7)
  have hT := HT2.out
  rw [if_neg gb] at hT
  have g3' : decide (mn < 0) = false := decide_eq_false (by omega)
  have g4' : decide (80 < mn) = false := decide_eq_false (by omega)
  obtain ⟨M, rfl⟩ : ∃ M : Nat, mn = (M : Int) := ⟨mn.toNat, by omega⟩
  rw [show (M : Int).toNat = M by omega] at hT
  have hM : M ≤ 80 := by omega
  have gmI : (M : Int) ≤ 80 := by omega
  have HT3 := Lib.hid hT
  clear hT HT2 gb
  go_wp2_with fail
  go_loopw [22, 23] (fun l i wr => ∃ (k : Nat) (na : Option Addr) (nc : Nat) (a : Option Addr) (m c : Nat), k ≤ M ∧ l = .slice na k nc ∧ i = .int .i64 k ∧ Rest W0 (sbs ao p.length cap p :: L) a m c (rdNums k s4 e4).2.1 ∧ Sat W0 wr (R1 pr a m c (rdNums k s4 e4).2.2 :: nis na k nc (rdNums k s4 e4).1 :: sbs ao p.length cap p :: L)) (fun _ i _ => M - (intOf i).toNat)
  case atStart => exact ⟨0, none, 0, a7, m7, c7, by omega, rfl, rfl, R7, (Sat.own_none.2 ⟨rfl, rfl, rfl, S7⟩).swap⟩
  case round =>
    clear S7 R7
    obtain ⟨k, na, nc, a, m, c, hk, rfl, rfl, R8, S8⟩ := hrel
    have k0 : (0 : Int) ≤ (k : Int) := Int.natCast_nonneg _
    have hnk := rdNums_fails k n4
    have hlk := rdNums_length k s4 e4
    by_cases hlt : k < M
    · have k1' : (k : Int) < (M : Int) := by omega
      have hsn := rdNums_snoc k s4 e4
      generalize rdNums k s4 e4 = D at R8 S8 hnk hlk hsn
      obtain ⟨ns, rs, re⟩ := D
      simp only at R8 S8 hnk hlk hsn
      obtain ⟨v, rs2, re2, hv⟩ : ∃ v rs2 re2, rdNum rs re = (v, rs2, re2) := ⟨_, _, _, rfl⟩
      rw [hv] at hsn
      have HV := Lib.hid hv
      have HSN : Hid (rdNums (k + 1) s4 e4 = (ns ++ [v], rs2, re2)) := hsn
      have HLK := Lib.hid hlk
      obtain ⟨j0, hj, jz0, jz1, jz2⟩ := info_parts Try.infoI
      clear hv hsn hlk
      go_wp2_with (first
        | (go_at_call 46; refine (r1Num_any (fun w' h => h.tail) R8 hnk S8).mono ?_; unfold Given; rw [HV.out]; rintro e w9 ⟨a9, m9, c9, R9, rfl, S9⟩; have S10 := S9.alloc [.int .i64 v] 3)
        | (at_builtin; refine wpList_append_sat rfl (.tmp 56) (.tmp 59) _ rfl 3 j0 (.int .i64 0) 1 8 Try.underlying22 hj jz0 jz1 jz2 rfl (by decide) (S10.sel [2]) rfl rfl (Rd.lit (S10.block 0 rfl).1) rfl (nv_one [v]) (by unfold maxLen; omega) (by omega) ?_; intro ao11 cap11 w11 S11))
      refine ⟨⟨k + 1, ao11, cap11, a9, m9, c9, by omega, rfl, by go_num, by rw [HSN.out]; exact R9, ?_⟩, by simp [intOf]; omega⟩
      rw [HSN.out]
      have S12 : Sat W0 w11 (nis ao11 (k + 1) cap11 (ns ++ [v]) :: blk w9.heap.size [.int .i64 v] 3 :: R1 pr a9 m9 c9 re2 :: sbs ao p.length cap p :: L) := by unfold nis nv; rw [List.map_append]; exact S11.swap.sel [1]
      exact S12.swap.tail.swap
    · obtain rfl : k = M := by omega
      generalize rdNums k s4 e4 = D at R8 S8 hnk hlk HT3
      obtain ⟨ns, rs, re⟩ := D
      simp only at R8 S8 hnk hlk HT3
      have HT4 := HT3.out
      rw [hlk] at HT4
      have HLK := Lib.hid hlk
      have HY := Lib.hid (r1Bytes_any (fun w' h => h.tail) R8 hnk S8)
      generalize rdBytes rs re = Y at HY HT4
      obtain ⟨y, ys, ye⟩ := Y
      simp only at HT4
      obtain ⟨en, hen⟩ : ∃ en, endsF ys ye = en := ⟨_, rfl⟩
      rw [hen] at HT4
      have HEN := Lib.hid hen
      clear HT3 hen hlk hnk R8 S8 n4
      go_upto_region 13 with fail
      go_cut [24] (fun l wx => ∃ ya yc ar mr cr, l = .slice ya y.length yc ∧ Rest W0 (sbs ao p.length cap p :: L) ar mr cr ys ∧ Sat W0 wx (sbs ya y.length yc y :: R1 pr ar mr cr ye :: nis na k nc ns :: sbs ao p.length cap p :: L))
      case first =>
        go_wp2_with (go_at_call 47; refine HY.out.mono ?_; unfold Byted; rintro e w9 ⟨ya, yc, a9, m9, c9, R9, rfl, S9⟩)
        go_meet
        exact ⟨ya, yc, a9, m9, c9, rfl, R9, S9⟩
      case rest =>
      obtain ⟨ya, yc, ar, mr, cr, rfl, R9, S9⟩ := hcut
      have hyl := S9.own_len
      have hHE : endOf ys ye = en := by rw [endOf_eq]; exact HEN.out
      have HHE := Lib.hid hHE
      clear hHE HEN HY
      have fin : Hid (∀ w', R = (0, 0, [], [], 3) → Sat W0 w' (sbs ya y.length yc y :: R1 pr ar mr cr ye :: nis na k nc ns :: sbs ao p.length cap p :: L) → Took24 W0 L R (.returned (.tuple #[.int .i64 0, .int .i64 0, .slice none 0 0, .slice none 0 0, .int .i64 3])) w') := fun w' e h => by rw [e]; exact Took24_bad h.tail.tail.tail.tail
      by_cases q1 : en = 0
      case neg =>
        have q1' : (en != 0) = true := by simpa using q1
        have HR : Hid (R = (0, 0, [], [], 3)) := by show R = _; rw [HT4, if_pos (Or.inl q1)]
        clear HT4 q1
        go_wp2_with (go_at_call 48; refine (r1End_any R9 (S9.sel [1])).mono ?_; rw [HHE.out]; rintro e wz ⟨rfl, rfl⟩)
        exact bodyPost_ret (by simp [results]) rfl (fin.out _ HR.out S9)
      subst q1
      by_cases q2 : k1 = mark
      case neg =>
        have q2' : (k1 != mark) = true := by simpa using q2
        have HR : Hid (R = (0, 0, [], [], 3)) := by show R = _; rw [HT4, if_pos (Or.inr (Or.inl q2))]
        clear HT4 q2
        go_wp2_with (go_at_call 48; refine (r1End_any R9 (S9.sel [1])).mono ?_; rw [HHE.out]; rintro e wz ⟨rfl, rfl⟩)
        exact bodyPost_ret (by simp [results]) rfl (fin.out _ HR.out S9)
      have q2' : (k1 != mark) = false := by simpa using q2
      obtain ⟨my, hmy⟩ : ∃ my, maySay k2 least top sq k y.length most = my := ⟨_, rfl⟩
      rw [hmy] at HT4
      have HMY := Lib.hid hmy
      have hkk : k ≤ maxLen := by unfold maxLen; omega
      have hyy : y.length ≤ maxLen := Nat.le_trans hyl.2.1 hyl.2.2.1
      by_cases q3 : my = 0
      · have q3' : (my != 0) = false := by simpa using q3
        have HR : Hid (R = (k2, sq, ns, y, 0)) := by show R = _; rw [HT4, if_neg (by rintro (h | h | h); exact h rfl; exact h q2; exact h q3)]
        clear HT4 q3 hmy q2 hyl
        go_wp2_with (first
          | (go_at_call 48; refine (r1End_any R9 (S9.sel [1])).mono ?_; rw [HHE.out]; rintro e wz ⟨rfl, rfl⟩)
          | (go_at_call 26; refine (may_any k2 least top sq na ya k nc y.length yc most HMY.out hkk hyy hmo).mono ?_; rintro e wz ⟨rfl, rfl⟩))
        refine bodyPost_ret (by simp [results]; rfl) rfl ?_
        rw [HR.out]
        refine ⟨na, nc, ya, yc, ?_, ?_⟩
        · show Ending.returned (.tuple #[.int .i64 k2, .int .i64 sq, .slice na k nc, .slice ya y.length yc, .int .i64 0]) = Ending.returned (.tuple #[.int .i64 k2, .int .i64 sq, .slice na ns.length nc, .slice ya y.length yc, .int .i64 0])
          rw [HLK.out]
        · show Sat W0 _ (nis na ns.length nc ns :: sbs ya y.length yc y :: L)
          rw [HLK.out]
          exact (S9.sel [1, 2, 1]).tail.tail
      · have q3' : (my != 0) = true := by simpa using q3
        have HR : Hid (R = (0, 0, [], [], 3)) := by show R = _; rw [HT4, if_pos (Or.inr (Or.inr q3))]
        clear HT4 q3 hmy q2 hyl
        go_wp2_with (first
          | (go_at_call 48; refine (r1End_any R9 (S9.sel [1])).mono ?_; rw [HHE.out]; rintro e wz ⟨rfl, rfl⟩)
          | (go_at_call 26; refine (may_any k2 least top sq na ya k nc y.length yc most HMY.out hkk hyy hmo).mono ?_; rintro e wz ⟨rfl, rfl⟩))
        exact bodyPost_ret (by simp [results]) rfl (fin.out _ HR.out S9)
theorem Try.sizeQ24 : (Try.prog.info? 34).map (·.size) = some 4 := by kernel_rfl
set_option maxRecDepth 100000 in
set_option maxHeartbeats 6400000 in
theorem r24Decode_any {W0 w : World} {L : List Asn} (S : Sat W0 w L) {a : Option Addr} {m c : Nat} {xs : List Int} (hR : ∀ w', Sat W0 w' L → Rd w' a (bv xs)) (hm : xs.length = m) (hB : Bytes xs) (hmc : m ≤ c) (hcm : c ≤ maxLen) (hb : m ≤ 1000000000) :
    Calls Try.prog 22 #[.slice a m c] w (DecQ W0 L (takeP 81 1 20 4096 xs)) := by
  have S1 := S.alloc [.int .i64 0, .int .i64 0, .slice none 0 0, .slice none 0 0] 34
  have HF := Lib.hid (take_any24 S1 (fun w' h => hR w' h.tail) hm hB hmc hcm hb 81 1 20 4096 (by omega))
  generalize takeP 81 1 20 4096 xs = R at HF ⊢
  obtain ⟨k, q, ns, d, e⟩ := R
  clear hR hm hB
  go_enter Try.func22, Try.ntmps22
  go_wp2_with (first
    | (go_at_call 29; refine HF.out.mono ?_; unfold Took24; rintro e2 w2 ⟨na, nc, da, dc, rfl, S2⟩)
    | (refine wpList_store_sat (off := 0) (n := 4) rfl 34 _ _ rfl (S2.sel [2]) rfl rfl rfl (by simp) Try.sizeQ24 (by simp [Value.oneCell']) ?_; intro w5 S5; rw [zstore4 (by rfl)] at S5))
  refine bodyPost_ret (results_cell_tmp_sat rfl _ S5 rfl Try.underlying34 rfl Try.sizeQ24 rfl) rfl ?_
  exact ⟨na, nc, da, dc, rfl, S5.tail⟩

theorem Try.sizeP24 : (Try.prog.info? 43).map (·.size) = some 4 := by kernel_rfl
set_option maxRecDepth 100000 in
set_option maxHeartbeats 6400000 in
theorem r24DecodeReply_any {W0 w : World} {L : List Asn} (S : Sat W0 w L) {a : Option Addr} {m c : Nat} {xs : List Int} (hR : ∀ w', Sat W0 w' L → Rd w' a (bv xs)) (hm : xs.length = m) (hB : Bytes xs) (hmc : m ≤ c) (hcm : c ≤ maxLen) (hb : m ≤ 1000000000) :
    Calls Try.prog 23 #[.slice a m c] w (DecR W0 L (takeP 82 0 100 32768 xs)) := by
  have S1 := S.alloc [.int .i64 0, .int .i64 0, .slice none 0 0, .slice none 0 0] 43
  have HF := Lib.hid (take_any24 S1 (fun w' h => hR w' h.tail) hm hB hmc hcm hb 82 0 100 32768 (by omega))
  generalize takeP 82 0 100 32768 xs = R at HF ⊢
  obtain ⟨k, q, ns, d, e⟩ := R
  clear hR hm hB
  go_enter Try.func23, Try.ntmps23
  go_wp2_with (first
    | (go_at_call 29; refine HF.out.mono ?_; unfold Took24; rintro e2 w2 ⟨na, nc, da, dc, rfl, S2⟩)
    | (refine wpList_store_sat (off := 0) (n := 4) rfl 43 _ _ rfl (S2.sel [2]) rfl rfl rfl (by simp) Try.sizeP24 (by simp [Value.oneCell']) ?_; intro w5 S5; rw [zstore4 (by rfl)] at S5))
  refine bodyPost_ret (results_cell_tmp_sat rfl _ S5 rfl Try.underlying43 rfl Try.sizeP24 rfl) rfl ?_
  exact ⟨na, nc, da, dc, rfl, S5.tail⟩
end Go.Proofs.Ytlkmnbnphgfppaa
