/-
  wire: the document's Encode, EncodeReply.
-/
import Derived.Test.YtlkmnbnphgfppaaWi1
namespace Go.Proofs.Ytlkmnbnphgfppaa
open Go.RowKit Go.Sep Go.Oct
set_option linter.unusedSimpArgs false

set_option maxRecDepth 100000 in
set_option maxHeartbeats 1600000 in
theorem may_any {w : World} (kind least top seq : Int) (a b : Option Addr) (m c n d most : Nat) {r : Int} (hr : maySay kind least top seq m n most = r) (hm : m ≤ maxLen) (hn : n ≤ maxLen) (hmo : most ≤ 1000000) :
    Calls Try.prog 26 #[.int .i64 kind, .int .i64 least, .int .i64 top, .int .i64 seq, .slice a m c, .slice b n d, .int .i64 most] w fun e w' => e = .returned (.int .i64 r) ∧ w = w' := by
  have HR := Lib.hid hr
  clear hr
  by_cases h1 : kind < least
  · have d1 : decide (kind < least) = true := decide_eq_true h1
    have HS : Hid (1 = r) := by show _ = r; rw [← HR.out]; unfold maySay; rw [if_pos (Or.inl h1)]
    clear HR
    go_enter Try.func26, Try.ntmps26
    go_wp2_with fail
    go_ret
    exact ⟨by rw [← HS.out]; rfl, rfl⟩
  have d1 : decide (kind < least) = false := decide_eq_false h1
  by_cases h2 : top < kind
  · have d2 : decide (top < kind) = true := decide_eq_true h2
    have HS : Hid (1 = r) := by show _ = r; rw [← HR.out]; unfold maySay; rw [if_pos (Or.inr (Or.inl h2))]
    clear HR
    go_enter Try.func26, Try.ntmps26
    go_wp2_with fail
    go_ret
    exact ⟨by rw [← HS.out]; rfl, rfl⟩
  have d2 : decide (top < kind) = false := decide_eq_false h2
  by_cases h3 : seq < 0
  · have d3 : decide (seq < 0) = true := decide_eq_true h3
    have HS : Hid (1 = r) := by show _ = r; rw [← HR.out]; unfold maySay; rw [if_pos (Or.inr (Or.inr (Or.inl h3)))]
    clear HR
    go_enter Try.func26, Try.ntmps26
    go_wp2_with fail
    go_ret
    exact ⟨by rw [← HS.out]; rfl, rfl⟩
  have d3 : decide (seq < 0) = false := decide_eq_false h3
  by_cases h4 : 9007199254740992 < seq
  · have d4 : decide (9007199254740992 < seq) = true := decide_eq_true h4
    have HS : Hid (1 = r) := by show _ = r; rw [← HR.out]; unfold maySay; rw [if_pos (Or.inr (Or.inr (Or.inr h4)))]
    clear HR
    go_enter Try.func26, Try.ntmps26
    go_wp2_with fail
    go_ret
    exact ⟨by rw [← HS.out]; rfl, rfl⟩
  have d4 : decide (9007199254740992 < seq) = false := decide_eq_false h4
  have hno : ¬ (kind < least ∨ top < kind ∨ seq < 0 ∨ 9007199254740992 < seq) := by omega
  by_cases h5 : 80 < m
  · have d5 : decide ((80 : Int) < (m : Int)) = true := decide_eq_true (by omega)
    have HS : Hid (5 = r) := by show _ = r; rw [← HR.out]; unfold maySay; rw [if_neg hno, if_pos (Or.inl h5)]
    clear HR
    go_enter Try.func26, Try.ntmps26
    go_wp2_with fail
    go_ret
    exact ⟨by rw [← HS.out]; rfl, rfl⟩
  have d5 : decide ((80 : Int) < (m : Int)) = false := decide_eq_false (by omega)
  by_cases h6 : most < n
  · have d6 : decide (most < n) = true := decide_eq_true h6
    have HS : Hid (5 = r) := by show _ = r; rw [← HR.out]; unfold maySay; rw [if_neg hno, if_pos (Or.inr h6)]
    clear HR
    go_enter Try.func26, Try.ntmps26
    go_wp2_with fail
    go_ret
    exact ⟨by rw [← HS.out]; rfl, rfl⟩
  have d6 : decide (most < n) = false := decide_eq_false h6
  have HS : Hid (0 = r) := by show _ = r; rw [← HR.out]; unfold maySay; rw [if_neg hno, if_neg (by omega)]
  clear HR
  go_enter Try.func26, Try.ntmps26
  go_wp2_with fail
  go_ret
  exact ⟨by rw [← HS.out]; rfl, rfl⟩

set_option maxRecDepth 100000 in
set_option maxHeartbeats 3200000 in
theorem lay_any {W0 w : World} {L : List Asn} (S : Sat W0 w L) {mark kind seq : Int} (hmk : 0 ≤ mark ∧ mark < 256) (hkd : 0 ≤ kind ∧ kind < 256) (hsq : I64 seq) {a : Option Addr} {m c : Nat} {nums : List Int} (hR : ∀ w', Sat W0 w' L → Rd w' a (nv nums)) (hm : nums.length = m) (hm80 : m ≤ 1000) (hI : I64s nums)
    {b : Option Addr} {n d : Nat} {data : List Int} (hRd : ∀ w', Sat W0 w' L → Rd w' b (bv data)) (hn : data.length = n) (hB : Bytes data) (hnm : n ≤ 100000) :
    Calls Try.prog 27 #[.int .u8 mark, .int .i64 kind, .int .i64 seq, .slice a m c, .slice b n d] w (Encoded W0 L (encF (bodyB mark kind seq nums data))) := by
  have HM := Lib.hid hm
  have HN := Lib.hid hn
  have HR := Lib.hid hR
  have HRD := Lib.hid hRd
  have HI := Lib.hid hI
  have hs1 := num_length seq
  have hs2 := num_length (m : Int)
  have hs3 := num_length data.length
  have hbb := bodyB_bytes hmk hkd hsq hI hB (by omega) (by omega)
  have hbl := bodyB_length mark kind seq nums data
  rw [hm, hn] at hbl
  have HBB := Lib.hid hbb
  have HBE : Hid (bodyB mark kind seq nums data = [mark, kind] ++ num seq ++ num (m : Int) ++ numsB nums ++ num data.length ++ data) := by show _ = _; unfold bodyB; rw [hm]
  have hk8 : kind % 256 = kind := by omega
  obtain ⟨i0, hi, hz0, hz1, hz2⟩ := info_parts Try.infoB
  clear hm hn hR hRd hI hB hbb
  generalize bodyB mark kind seq nums data = B at HBB HBE hbl ⊢
  have S1 : Sat W0 (w.alloc (.cells #[.int .u8 mark, .int .u8 kind] 5)) (sbs (some ⟨w.heap.size, 0, none⟩) 2 2 [mark, kind] :: L) := Sat.sbs_new (post := []) (by rw [List.append_nil]; exact S.alloc [.int .u8 mark, .int .u8 kind] 5) rfl (Nat.le_refl _) (by unfold maxLen; omega) (by simp)
  go_enter Try.func27, Try.ntmps27
  go_wp2_with (first
    | (go_at_call 35; refine (refNum_any S3 (m : Int) (by omega) (by omega)).mono ?_; unfold GivesB; rintro e w4 ⟨ao4, cap4, rfl, S4⟩; have S4r := S4.own_rd)
    | (go_at_call 35; refine (refNum_any S1 seq hsq.1 hsq.2).mono ?_; unfold GivesB; rintro e w2 ⟨ao2, cap2, rfl, S2⟩; have S2r := S2.own_rd)
    | (at_builtin; refine wpList_append_sat rfl (.tmp 17) (.tmp 19) _ rfl 5 i0 (.int .u8 0) 1 1 Try.underlying23 hi hz0 hz1 hz2 rfl (by decide) S2.swap rfl rfl S2r (by rw [bv_length, Nat.mul_one]) (bv_one _) (by unfold maxLen; omega) (by omega) ?_; intro ao3 cap3 w3 S3; rw [← bv_append] at S3)
    | (at_builtin; refine wpList_append_sat rfl (.tmp 21) (.tmp 24) _ rfl 5 i0 (.int .u8 0) 1 1 Try.underlying23 hi hz0 hz1 hz2 rfl (by decide) S4.swap rfl rfl S4r (by rw [bv_length, Nat.mul_one]) (bv_one _) (by unfold maxLen; omega) (by omega) ?_; intro ao5 cap5 w5 S5; rw [← bv_append] at S5))
  obtain ⟨pre, hpre⟩ : ∃ pre, [mark, kind] ++ num seq ++ num (m : Int) = pre := ⟨_, rfl⟩
  have hpl : pre.length = 2 + (num seq).length + (num (m : Int)).length := by rw [← hpre]; simp; omega
  rw [hpre] at S5
  have HBE2 : Hid (B = pre ++ numsB nums ++ num data.length ++ data) := by show B = _; rw [HBE.out, ← hpre]
  rw [← hpl] at S5 ⊢
  have S6 : Sat W0 w5 (sbs ao5 pre.length cap5 pre :: L) := (S5.sel [1]).tail.swap.tail
  have hpl2 : pre.length ≤ 22 := by omega
  clear hpre hpl S1 S2 S3 S4 S5 HBE S2r S4r
  go_loopw [12, 13] (fun b i wr => ∃ (k : Nat) (ys : List Int) (ao : Option Addr) (cp : Nat), k ≤ m ∧ i = .int .i64 k ∧ b = .slice ao ys.length cp ∧ ys.length ≤ 22 + 10 * k ∧ Hid (ys = pre ++ numsB (nums.take k)) ∧ Sat W0 wr (sbs ao ys.length cp ys :: L)) (fun _ i _ => m - (intOf i).toNat)
  case atStart => exact ⟨0, pre, ao5, cap5, by omega, rfl, rfl, by omega, (by show pre = _; rw [List.take_zero]; show pre = pre ++ []; rw [List.append_nil]), S6⟩
  case round =>
    clear S6
    obtain ⟨k, ys, ao, cp, hk, rfl, rfl, hyl, HY, S7⟩ := hrel
    have k0 : (0 : Int) ≤ (k : Int) := Int.natCast_nonneg _
    by_cases hlt : k < m
    · have k1 : (k : Int) < (m : Int) := by omega
      obtain ⟨x, hx⟩ : ∃ x, nums[k]? = some x := ⟨nums[k]'(by rw [HM.out]; exact hlt), List.getElem?_eq_getElem _⟩
      have hxi := HI.out x (List.mem_of_getElem? hx)
      obtain ⟨bb, off, rfl, hc⟩ := HR.out _ S7.tail _ _ (nv_at hx)
      have HT := Lib.hid (numsB_take hx)
      have hxl := num_length x
      clear hx
      go_wp2_with (first
        | (go_at_call 35; refine (refNum_any S7 x hxi.1 hxi.2).mono ?_; unfold GivesB; rintro e w8 ⟨ao8, cap8, rfl, S8⟩; have S8r := S8.own_rd)
        | (at_builtin; refine wpList_append_sat rfl (.tmp 32) (.tmp 37) _ rfl 5 i0 (.int .u8 0) 1 1 Try.underlying23 hi hz0 hz1 hz2 rfl (by decide) S8.swap rfl rfl S8r (by rw [bv_length, Nat.mul_one]) (bv_one _) (by unfold maxLen; omega) (by omega) ?_; intro ao9 cap9 w9 S9; rw [← bv_append] at S9))
      refine ⟨⟨k + 1, ys ++ num x, ao9, cap9, by omega, rfl, by rw [List.length_append], by rw [List.length_append]; omega, ?_, ?_⟩, by simp [intOf]; omega⟩
      · show _ = _
        rw [HY.out, HT.out, List.append_assoc]
      · unfold sbs
        rw [List.length_append]
        exact S9.swap.tail
    · have hkm : k = m := by omega
      subst hkm
      have hys : ys = pre ++ numsB nums := by rw [HY.out, List.take_of_length_le (Nat.le_of_eq HM.out)]
      obtain ⟨tl, htl⟩ : ∃ tl, num data.length ++ data = tl := ⟨_, rfl⟩
      have htll : tl.length ≤ 10 + n := by rw [← htl, List.length_append, HN.out]; have := hs3; rw [HN.out] at this; omega
      have HTL := Lib.hid htl
      have HYB : Hid (ys ++ tl = B) := by show _ = B; rw [HBE2.out, hys, ← htl]; simp
      clear hys htl
      go_wp2_with (first
        | (go_at_call 37; refine (refBytes_any S7 (fun w' h => HRD.out _ h.tail) HN.out (by omega)).mono ?_; unfold GivesB; rw [HTL.out]; rintro e w8 ⟨ao8, cap8, rfl, S8⟩; have S8r := S8.own_rd)
        | (at_builtin; refine wpList_append_sat rfl (.tmp 39) (.tmp 41) _ rfl 5 i0 (.int .u8 0) 1 1 Try.underlying23 hi hz0 hz1 hz2 rfl (by decide) S8.swap rfl rfl S8r (by rw [bv_length, Nat.mul_one]) (bv_one _) (by unfold maxLen; omega) (by omega) ?_; intro ao9 cap9 w9 S9; rw [← bv_append, HYB.out] at S9)
        | (go_at_call 36; refine (r4Encode_any S9 (xs := B) (fun w' h => h.own_rd) (by rw [← HYB.out, List.length_append]) HBB.out (by omega)).mono ?_; unfold Encoded; rintro e w10 ⟨ao10, cap10, rfl, S10⟩))
      go_ret2
      exact ⟨ao10, cap10, rfl, ((S10.sel [1]).tail.sel [1]).tail⟩

set_option maxRecDepth 100000 in
set_option maxHeartbeats 3200000 in
theorem r24Encode_any {W0 w : World} {L : List Asn} (S : Sat W0 w L) {kind seq : Int} (hsq : I64 seq) {a : Option Addr} {m c : Nat} {nums : List Int} (hR : ∀ w', Sat W0 w' L → Rd w' a (nv nums)) (hm : nums.length = m) (hI : I64s nums)
    {b : Option Addr} {n d : Nat} {data : List Int} (hRd : ∀ w', Sat W0 w' L → Rd w' b (bv data)) (hn : data.length = n) (hB : Bytes data) (hmb : m ≤ maxLen) (hnb : n ≤ maxLen) :
    Calls Try.prog 14 #[.agg #[.int .i64 kind, .int .i64 seq, .slice a m c, .slice b n d]] w (Encoded W0 L (sayP 81 kind 1 20 seq nums data 4096)) := by
  have S1 := S.alloc [.int .i64 kind, .int .i64 seq, .slice a m c, .slice b n d] 34
  have c0 := S1.cell 0 rfl 0
  have c1 := S1.cell 0 rfl 1
  have c2 := S1.cell 0 rfl 2
  have c3 := S1.cell 0 rfl 3
  simp only [List.getElem?_cons_zero, List.getElem?_cons_succ] at c0 c1 c2 c3
  obtain ⟨R, hRR⟩ : ∃ R, sayP 81 kind 1 20 seq nums data 4096 = R := ⟨_, rfl⟩
  obtain ⟨r, hr⟩ : ∃ r, maySay kind 1 20 seq m n 4096 = r := ⟨_, rfl⟩
  have hR2 := hRR
  unfold sayP at hR2
  rw [hm, hn, hr] at hR2
  rw [hRR]
  have HMY := Lib.hid (fun (w' : World) => may_any (w := w') kind 1 20 seq a b m c n d 4096 hr hmb hnb (by omega))
  by_cases hr0 : r = 0
  · have hb := hr
    rw [hr0] at hb
    unfold maySay at hb
    have hcase : ¬ (kind < 1 ∨ 20 < kind ∨ seq < 0 ∨ 9007199254740992 < seq) := by intro h; rw [if_pos h] at hb; cases hb
    rw [if_neg hcase] at hb
    have hcase2 : ¬ (80 < m ∨ 4096 < n) := by intro h; rw [if_pos h] at hb; cases hb
    subst hr0
    rw [if_neg (by simp)] at hR2
    have HF := Lib.hid (lay_any S1 (mark := 81) (kind := kind) (by omega) (by omega) hsq (c := c) (fun w' h => hR w' h.tail) hm (by omega) hI (d := d) (fun w' h => hRd w' h.tail) hn hB (by omega))
    rw [hR2] at HF
    clear hr hb hcase hcase2 hR2 hRR hR hRd hm hn hI hB
    go_enter Try.func14, Try.ntmps14
    go_wp2_with (first
      | (go_at_call 26; refine (HMY.out _).mono ?_; rintro e w2 ⟨rfl, rfl⟩)
      | (go_at_call 27; refine HF.out.mono ?_; unfold Encoded; rintro e w3 ⟨ao, cap, rfl, S3⟩))
    go_ret2
    exact ⟨ao, cap, rfl, S3.swap.tail⟩
  · rw [if_pos hr0] at hR2
    have HS : Hid (R = ([], r)) := hR2.symm
    have hne : (r != 0) = true := by simpa using hr0
    clear hr hR2 hRR hr0
    go_enter Try.func14, Try.ntmps14
    go_wp2_with (first
      | (go_at_call 26; refine (HMY.out _).mono ?_; rintro e w2 ⟨rfl, rfl⟩))
    go_ret2
    rw [HS.out]
    exact ⟨none, 0, rfl, Sat.own_none.2 ⟨rfl, rfl, rfl, S1.tail⟩⟩

set_option maxRecDepth 100000 in
set_option maxHeartbeats 3200000 in
theorem r24EncodeReply_any {W0 w : World} {L : List Asn} (S : Sat W0 w L) {kind seq : Int} (hsq : I64 seq) {a : Option Addr} {m c : Nat} {nums : List Int} (hR : ∀ w', Sat W0 w' L → Rd w' a (nv nums)) (hm : nums.length = m) (hI : I64s nums)
    {b : Option Addr} {n d : Nat} {data : List Int} (hRd : ∀ w', Sat W0 w' L → Rd w' b (bv data)) (hn : data.length = n) (hB : Bytes data) (hmb : m ≤ maxLen) (hnb : n ≤ maxLen) :
    Calls Try.prog 19 #[.agg #[.int .i64 seq, .int .i64 kind, .slice a m c, .slice b n d]] w (Encoded W0 L (sayP 82 kind 0 100 seq nums data 32768)) := by
  have S1 := S.alloc [.int .i64 seq, .int .i64 kind, .slice a m c, .slice b n d] 43
  have c0 := S1.cell 0 rfl 0
  have c1 := S1.cell 0 rfl 1
  have c2 := S1.cell 0 rfl 2
  have c3 := S1.cell 0 rfl 3
  simp only [List.getElem?_cons_zero, List.getElem?_cons_succ] at c0 c1 c2 c3
  obtain ⟨R, hRR⟩ : ∃ R, sayP 82 kind 0 100 seq nums data 32768 = R := ⟨_, rfl⟩
  obtain ⟨r, hr⟩ : ∃ r, maySay kind 0 100 seq m n 32768 = r := ⟨_, rfl⟩
  have hR2 := hRR
  unfold sayP at hR2
  rw [hm, hn, hr] at hR2
  rw [hRR]
  have HMY := Lib.hid (fun (w' : World) => may_any (w := w') kind 0 100 seq a b m c n d 32768 hr hmb hnb (by omega))
  by_cases hr0 : r = 0
  · have hb := hr
    rw [hr0] at hb
    unfold maySay at hb
    have hcase : ¬ (kind < 0 ∨ 100 < kind ∨ seq < 0 ∨ 9007199254740992 < seq) := by intro h; rw [if_pos h] at hb; cases hb
    rw [if_neg hcase] at hb
    have hcase2 : ¬ (80 < m ∨ 32768 < n) := by intro h; rw [if_pos h] at hb; cases hb
    subst hr0
    rw [if_neg (by simp)] at hR2
    have HF := Lib.hid (lay_any S1 (mark := 82) (kind := kind) (by omega) (by omega) hsq (c := c) (fun w' h => hR w' h.tail) hm (by omega) hI (d := d) (fun w' h => hRd w' h.tail) hn hB (by omega))
    rw [hR2] at HF
    clear hr hb hcase hcase2 hR2 hRR hR hRd hm hn hI hB
    go_enter Try.func19, Try.ntmps19
    go_wp2_with (first
      | (go_at_call 26; refine (HMY.out _).mono ?_; rintro e w2 ⟨rfl, rfl⟩)
      | (go_at_call 27; refine HF.out.mono ?_; unfold Encoded; rintro e w3 ⟨ao, cap, rfl, S3⟩))
    go_ret2
    exact ⟨ao, cap, rfl, S3.swap.tail⟩
  · rw [if_pos hr0] at hR2
    have HS : Hid (R = ([], r)) := hR2.symm
    have hne : (r != 0) = true := by simpa using hr0
    clear hr hR2 hRR hr0
    go_enter Try.func19, Try.ntmps19
    go_wp2_with (first
      | (go_at_call 26; refine (HMY.out _).mono ?_; rintro e w2 ⟨rfl, rfl⟩))
    go_ret2
    rw [HS.out]
    exact ⟨none, 0, rfl, Sat.own_none.2 ⟨rfl, rfl, rfl, S1.tail⟩⟩

end Go.Proofs.Ytlkmnbnphgfppaa
