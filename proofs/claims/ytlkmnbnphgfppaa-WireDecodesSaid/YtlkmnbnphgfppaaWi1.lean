/-
  wire: Encode, EncodeReply.
-/
import Derived.Test.YtlkmnbnphgfppaaWiP
import Derived.Test.YtlkmnbnphgfppaaFr2
namespace Go.Proofs.Ytlkmnbnphgfppaa
open Go.RowKit Go.Sep Go.Oct
set_option linter.unusedSimpArgs false

set_option maxRecDepth 100000 in
set_option maxHeartbeats 1600000 in
theorem framed_any {W0 w : World} {L : List Asn} (S : Sat W0 w L) {mark kind seq : Int} (hmk : 0 ≤ mark ∧ mark < 256) (hkd : 0 ≤ kind ∧ kind < 256) (hsq : I64 seq) {a : Option Addr} {m c : Nat} {nums : List Int} (hR : ∀ w', Sat W0 w' L → Rd w' a (nv nums)) (hm : nums.length = m) (hm80 : m ≤ 1000) (hI : I64s nums)
    {b : Option Addr} {n d : Nat} {data : List Int} (hRd : ∀ w', Sat W0 w' L → Rd w' b (bv data)) (hn : data.length = n) (hB : Bytes data) (hnm : n ≤ 100000) :
    Calls Try.prog 25 #[.int .u8 mark, .int .u8 kind, .int .i64 seq, .slice a m c, .slice b n d] w (Encoded W0 L (encF (bodyB mark kind seq nums data))) := by
  have S1 := writer_new S
  have HM := Lib.hid hm
  have HN := Lib.hid hn
  have HR := Lib.hid hR
  have HRD := Lib.hid hRd
  have HI := Lib.hid hI
  have hs1 := num_length seq
  have hs2 := num_length (m : Int)
  have hbb := bodyB_bytes hmk hkd hsq hI hB (by omega) (by omega)
  have hbl := bodyB_length mark kind seq nums data
  rw [hm, hn] at hbl
  have HBB := Lib.hid hbb
  have HBE : Hid (bodyB mark kind seq nums data = [mark, kind] ++ num seq ++ num (m : Int) ++ numsB nums ++ num data.length ++ data) := by show _ = _; unfold bodyB; rw [hm]
  clear hm hn hR hRd hI hB hbb
  generalize bodyB mark kind seq nums data = B at HBB HBE hbl ⊢
  go_enter Try.func25, Try.ntmps25
  go_wp2_with (first
    | (go_at_call 31; refine (wNum_any S4 (m : Int) (by omega) (by omega) (by simp; omega)).mono ?_; rintro e w5 ⟨rfl, S5⟩)
    | (go_at_call 31; refine (wNum_any S3 seq hsq.1 hsq.2 (by simp)).mono ?_; rintro e w4 ⟨rfl, S4⟩)
    | (go_at_call 30; refine (wByte_any S2 kind (by simp)).mono ?_; rintro e w3 ⟨rfl, S3⟩)
    | (go_at_call 30; refine (wByte_any S1 mark (by simp)).mono ?_; rintro e w2 ⟨rfl, S2⟩))
  obtain ⟨p, hp⟩ : ∃ p, w.heap.size = p := ⟨_, rfl⟩
  rw [hp] at S5 ⊢
  obtain ⟨pre, hpre⟩ : ∃ pre, [] ++ [mark] ++ [kind] ++ num seq ++ num (m : Int) = pre := ⟨_, rfl⟩
  have hpl : pre.length ≤ 22 := by rw [← hpre]; simp; omega
  rw [hpre] at S5
  have HBE2 : Hid (B = pre ++ numsB nums ++ num data.length ++ data) := by show B = _; rw [HBE.out, ← hpre]; simp
  clear hpre hp S1 S2 S3 S4 HBE
  go_loopw [26] (fun i wr => ∃ (k : Nat), k ≤ m ∧ i = .int .i64 k ∧ Sat W0 wr (Wr p (pre ++ numsB (nums.take k)) :: L)) (fun i _ => m - (intOf i).toNat)
  case atStart => exact ⟨0, by omega, rfl, by rw [List.take_zero]; show Sat W0 _ (Wr p (pre ++ []) :: L); rw [List.append_nil]; exact S5⟩
  case round =>
    clear S5
    obtain ⟨k, hk, rfl, S6⟩ := hrel
    have k0 : (0 : Int) ≤ (k : Int) := Int.natCast_nonneg _
    have hlk := numsB_length (nums.take k)
    rw [List.length_take, HM.out] at hlk
    by_cases hlt : k < m
    · have k1 : (k : Int) < (m : Int) := by omega
      obtain ⟨x, hx⟩ : ∃ x, nums[k]? = some x := ⟨nums[k]'(by rw [HM.out]; exact hlt), List.getElem?_eq_getElem _⟩
      have hxi := HI.out x (List.mem_of_getElem? hx)
      obtain ⟨bb, off, rfl, hc⟩ := HR.out _ S6.tail _ _ (nv_at hx)
      have HT := Lib.hid (numsB_take hx)
      clear hx
      go_wp2_with (first
        | (go_at_call 31; refine (wNum_any S6 x hxi.1 hxi.2 (by rw [List.length_append]; omega)).mono ?_; rintro e w7 ⟨rfl, S7⟩))
      exact ⟨⟨k + 1, by omega, rfl, by rw [HT.out, ← List.append_assoc]; exact S7⟩, by simp [intOf]; omega⟩
    · have hkm : k = m := by omega
      subst hkm
      rw [List.take_of_length_le (Nat.le_of_eq HM.out)] at S6 hlk
      go_wp2_with (first
        | (go_at_call 32; refine (wBytes_any S6 (HRD.out) HN.out (by rw [List.length_append]; omega)).mono ?_; rintro e w7 ⟨rfl, S7⟩; rw [← HBE2.out] at S7)
        | (go_at_call 34; refine (out_any S7 (by omega)).mono ?_; rintro e w8 ⟨ao, cap, rfl, S8⟩)
        | (go_at_call 33; refine (fEncode_any S8 (fun w' h => h.own_rd) rfl HBB.out (by omega)).mono ?_; rintro e w9 ⟨ao9, cap9, rfl, S9⟩))
      go_ret2
      exact ⟨ao9, cap9, rfl, ((S9.sel [1]).tail.sel [1]).tail⟩

set_option maxRecDepth 100000 in
set_option maxRecDepth 100000 in
set_option maxRecDepth 100000 in
set_option maxRecDepth 100000 in
theorem isSeq_any {w : World} (v : Int) {r : Bool} (hr : decide (0 ≤ v ∧ v ≤ 9007199254740992) = r) : Calls Try.prog 24 #[.int .i64 v] w fun e w' => e = .returned (.bool r) ∧ w = w' := by
  have HR := Lib.hid hr
  clear hr
  by_cases h0 : 0 ≤ v
  · by_cases h1 : v ≤ 9007199254740992
    · have hd : decide (v ≤ 9007199254740992) = true := decide_eq_true h1
      have hf : Hid (true = r) := by show true = r; rw [← HR.out, decide_eq_true ⟨h0, h1⟩]
      clear HR
      go_enter Try.func24, Try.ntmps24
      go_wp2_with fail
      go_ret
      exact ⟨by rw [← hf.out]; rfl, rfl⟩
    · have hd : decide (v ≤ 9007199254740992) = false := decide_eq_false h1
      have hf : Hid (false = r) := by show false = r; rw [← HR.out, decide_eq_false (fun h => h1 h.2)]
      clear HR
      go_enter Try.func24, Try.ntmps24
      go_wp2_with fail
      go_ret
      exact ⟨by rw [← hf.out]; rfl, rfl⟩
  · have hd : decide (0 ≤ v) = false := decide_eq_false h0
    have hf : Hid (false = r) := by show false = r; rw [← HR.out, decide_eq_false (fun h => h0 h.1)]
    clear HR
    go_enter Try.func24, Try.ntmps24
    go_wp2_with fail
    go_ret
    exact ⟨by rw [← hf.out]; rfl, rfl⟩

set_option maxRecDepth 100000 in
set_option maxHeartbeats 3200000 in
theorem wEncode_any {W0 w : World} {L : List Asn} (S : Sat W0 w L) {kind seq : Int} (hsq : I64 seq) {a : Option Addr} {m c : Nat} {nums : List Int} (hR : ∀ w', Sat W0 w' L → Rd w' a (nv nums)) (hm : nums.length = m) (hI : I64s nums)
    {b : Option Addr} {n d : Nat} {data : List Int} (hRd : ∀ w', Sat W0 w' L → Rd w' b (bv data)) (hn : data.length = n) (hB : Bytes data) (hmb : m ≤ maxLen) (hnb : n ≤ maxLen) :
    Calls Try.prog 9 #[.agg #[.int .i64 kind, .int .i64 seq, .slice a m c, .slice b n d]] w (Encoded W0 L (sayP 81 kind 1 20 seq nums data 4096)) := by
  have S1 := S.alloc [.int .i64 kind, .int .i64 seq, .slice a m c, .slice b n d] 28
  have c0 := S1.cell 0 rfl 0
  have c1 := S1.cell 0 rfl 1
  have c2 := S1.cell 0 rfl 2
  have c3 := S1.cell 0 rfl 3
  simp only [List.getElem?_cons_zero, List.getElem?_cons_succ] at c0 c1 c2 c3
  obtain ⟨R, hRR⟩ : ∃ R, sayP 81 kind 1 20 seq nums data 4096 = R := ⟨_, rfl⟩
  have HR : Hid (R = sayP 81 kind 1 20 seq nums data 4096) := hRR.symm
  rw [hRR]
  clear hRR
  by_cases hk : kind < 1
  · have hd1 : decide (kind < 1) = true := decide_eq_true hk
    have HS : Hid (R = ([], 1)) := by show R = _; rw [HR.out]; unfold sayP maySay; rw [if_pos (Or.inl hk), if_pos (by simp)]
    clear HR
    go_enter Try.func9, Try.ntmps9
    go_wp2_with fail
    go_ret2
    rw [HS.out]
    exact ⟨none, 0, rfl, Sat.own_none.2 ⟨rfl, rfl, rfl, S1.tail⟩⟩
  by_cases hk2 : 20 < kind
  · have hd1 : decide (kind < 1) = false := decide_eq_false hk
    have hd2 : decide (20 < kind) = true := decide_eq_true hk2
    have HS : Hid (R = ([], 1)) := by show R = _; rw [HR.out]; unfold sayP maySay; rw [if_pos (Or.inr (Or.inl hk2)), if_pos (by simp)]
    clear HR
    go_enter Try.func9, Try.ntmps9
    go_wp2_with fail
    go_ret2
    rw [HS.out]
    exact ⟨none, 0, rfl, Sat.own_none.2 ⟨rfl, rfl, rfl, S1.tail⟩⟩
  have hd1 : decide (kind < 1) = false := decide_eq_false hk
  have hd2 : decide (20 < kind) = false := decide_eq_false hk2
  by_cases hs : seq < 0 ∨ 9007199254740992 < seq
  · have hq : Hid (decide (0 ≤ seq ∧ seq ≤ 9007199254740992) = false) := decide_eq_false (by omega)
    have HS : Hid (R = ([], 1)) := by show R = _; rw [HR.out]; unfold sayP maySay; rw [if_pos (Or.inr (Or.inr hs)), if_pos (by simp)]
    clear HR hs hk hk2
    go_enter Try.func9, Try.ntmps9
    go_wp2_with (first
      | (go_at_call 24; refine (isSeq_any seq hq.out).mono ?_; rintro e w2 ⟨rfl, rfl⟩))
    go_ret2
    rw [HS.out]
    exact ⟨none, 0, rfl, Sat.own_none.2 ⟨rfl, rfl, rfl, S1.tail⟩⟩
  have hq : Hid (decide (0 ≤ seq ∧ seq ≤ 9007199254740992) = true) := decide_eq_true (by omega)
  have hno : ¬ (kind < 1 ∨ 20 < kind ∨ seq < 0 ∨ 9007199254740992 < seq) := by omega
  have HM := Lib.hid hm
  have HN := Lib.hid hn
  by_cases hl : 80 < m
  · have hd3 : decide ((80 : Int) < (m : Int)) = true := decide_eq_true (by omega)
    have HS : Hid (R = ([], 5)) := by show R = _; rw [HR.out]; unfold sayP maySay; rw [if_neg hno, if_pos (Or.inl (by rw [HM.out]; exact hl)), if_pos (by simp)]
    clear HR hno hs hk hk2 hm hn
    go_enter Try.func9, Try.ntmps9
    go_wp2_with (first
      | (go_at_call 24; refine (isSeq_any seq hq.out).mono ?_; rintro e w2 ⟨rfl, rfl⟩))
    go_ret2
    rw [HS.out]
    exact ⟨none, 0, rfl, Sat.own_none.2 ⟨rfl, rfl, rfl, S1.tail⟩⟩
  have hd3 : decide ((80 : Int) < (m : Int)) = false := decide_eq_false (by omega)
  by_cases hl2 : 4096 < n
  · have hd4 : decide ((4096 : Int) < (n : Int)) = true := decide_eq_true (by omega)
    have HS : Hid (R = ([], 5)) := by show R = _; rw [HR.out]; unfold sayP maySay; rw [if_neg hno, if_pos (Or.inr (by rw [HN.out]; exact hl2)), if_pos (by simp)]
    clear HR hno hs hk hk2 hm hn
    go_enter Try.func9, Try.ntmps9
    go_wp2_with (first
      | (go_at_call 24; refine (isSeq_any seq hq.out).mono ?_; rintro e w2 ⟨rfl, rfl⟩))
    go_ret2
    rw [HS.out]
    exact ⟨none, 0, rfl, Sat.own_none.2 ⟨rfl, rfl, rfl, S1.tail⟩⟩
  have hd4 : decide ((4096 : Int) < (n : Int)) = false := decide_eq_false (by omega)
  have hkb : 0 ≤ kind ∧ kind < 256 := by omega
  have hkm : kind % 256 = kind := by omega
  have HS : Hid (R = encF (bodyB 81 kind seq nums data)) := by show R = _; rw [HR.out]; unfold sayP maySay; rw [if_neg hno, if_neg (by rw [HM.out, HN.out]; omega)]
  have HF := Lib.hid (framed_any S1 (mark := 81) (by omega) hkb hsq (c := c) (fun w' h => hR w' h.tail) hm (by omega) hI (d := d) (fun w' h => hRd w' h.tail) hn hB (by omega))
  rw [← HS.out] at HF
  clear HR hno hs hk hk2 hm hn hR hRd hI hB HS hl hl2
  go_enter Try.func9, Try.ntmps9
  go_wp2_with (first
    | (go_at_call 24; refine (isSeq_any seq hq.out).mono ?_; rintro e w2 ⟨rfl, rfl⟩)
    | (go_at_call 25; refine HF.out.mono ?_; unfold Encoded; rintro e w3 ⟨ao, cap, rfl, S3⟩))
  go_ret2
  exact ⟨ao, cap, rfl, S3.swap.tail⟩

set_option maxRecDepth 100000 in
set_option maxHeartbeats 3200000 in
theorem wEncodeReply_any {W0 w : World} {L : List Asn} (S : Sat W0 w L) {kind seq : Int} (hsq : I64 seq) {a : Option Addr} {m c : Nat} {nums : List Int} (hR : ∀ w', Sat W0 w' L → Rd w' a (nv nums)) (hm : nums.length = m) (hI : I64s nums)
    {b : Option Addr} {n d : Nat} {data : List Int} (hRd : ∀ w', Sat W0 w' L → Rd w' b (bv data)) (hn : data.length = n) (hB : Bytes data) (hmb : m ≤ maxLen) (hnb : n ≤ maxLen) :
    Calls Try.prog 18 #[.agg #[.int .i64 seq, .int .i64 kind, .slice a m c, .slice b n d]] w (Encoded W0 L (sayP 82 kind 0 100 seq nums data 32768)) := by
  have S1 := S.alloc [.int .i64 seq, .int .i64 kind, .slice a m c, .slice b n d] 46
  have c0 := S1.cell 0 rfl 0
  have c1 := S1.cell 0 rfl 1
  have c2 := S1.cell 0 rfl 2
  have c3 := S1.cell 0 rfl 3
  simp only [List.getElem?_cons_zero, List.getElem?_cons_succ] at c0 c1 c2 c3
  obtain ⟨R, hRR⟩ : ∃ R, sayP 82 kind 0 100 seq nums data 32768 = R := ⟨_, rfl⟩
  have HR : Hid (R = sayP 82 kind 0 100 seq nums data 32768) := hRR.symm
  rw [hRR]
  clear hRR
  by_cases hk : kind < 0
  · have hd1 : decide (kind < 0) = true := decide_eq_true hk
    have HS : Hid (R = ([], 1)) := by show R = _; rw [HR.out]; unfold sayP maySay; rw [if_pos (Or.inl hk), if_pos (by simp)]
    clear HR
    go_enter Try.func18, Try.ntmps18
    go_wp2_with fail
    go_ret2
    rw [HS.out]
    exact ⟨none, 0, rfl, Sat.own_none.2 ⟨rfl, rfl, rfl, S1.tail⟩⟩
  by_cases hk2 : 100 < kind
  · have hd1 : decide (kind < 0) = false := decide_eq_false hk
    have hd2 : decide (100 < kind) = true := decide_eq_true hk2
    have HS : Hid (R = ([], 1)) := by show R = _; rw [HR.out]; unfold sayP maySay; rw [if_pos (Or.inr (Or.inl hk2)), if_pos (by simp)]
    clear HR
    go_enter Try.func18, Try.ntmps18
    go_wp2_with fail
    go_ret2
    rw [HS.out]
    exact ⟨none, 0, rfl, Sat.own_none.2 ⟨rfl, rfl, rfl, S1.tail⟩⟩
  have hd1 : decide (kind < 0) = false := decide_eq_false hk
  have hd2 : decide (100 < kind) = false := decide_eq_false hk2
  by_cases hs : seq < 0 ∨ 9007199254740992 < seq
  · have hq : Hid (decide (0 ≤ seq ∧ seq ≤ 9007199254740992) = false) := decide_eq_false (by omega)
    have HS : Hid (R = ([], 1)) := by show R = _; rw [HR.out]; unfold sayP maySay; rw [if_pos (Or.inr (Or.inr hs)), if_pos (by simp)]
    clear HR hs hk hk2
    go_enter Try.func18, Try.ntmps18
    go_wp2_with (first
      | (go_at_call 24; refine (isSeq_any seq hq.out).mono ?_; rintro e w2 ⟨rfl, rfl⟩))
    go_ret2
    rw [HS.out]
    exact ⟨none, 0, rfl, Sat.own_none.2 ⟨rfl, rfl, rfl, S1.tail⟩⟩
  have hq : Hid (decide (0 ≤ seq ∧ seq ≤ 9007199254740992) = true) := decide_eq_true (by omega)
  have hno : ¬ (kind < 0 ∨ 100 < kind ∨ seq < 0 ∨ 9007199254740992 < seq) := by omega
  have HM := Lib.hid hm
  have HN := Lib.hid hn
  by_cases hl : 80 < m
  · have hd3 : decide ((80 : Int) < (m : Int)) = true := decide_eq_true (by omega)
    have HS : Hid (R = ([], 5)) := by show R = _; rw [HR.out]; unfold sayP maySay; rw [if_neg hno, if_pos (Or.inl (by rw [HM.out]; exact hl)), if_pos (by simp)]
    clear HR hno hs hk hk2 hm hn
    go_enter Try.func18, Try.ntmps18
    go_wp2_with (first
      | (go_at_call 24; refine (isSeq_any seq hq.out).mono ?_; rintro e w2 ⟨rfl, rfl⟩))
    go_ret2
    rw [HS.out]
    exact ⟨none, 0, rfl, Sat.own_none.2 ⟨rfl, rfl, rfl, S1.tail⟩⟩
  have hd3 : decide ((80 : Int) < (m : Int)) = false := decide_eq_false (by omega)
  by_cases hl2 : 32768 < n
  · have hd4 : decide ((32768 : Int) < (n : Int)) = true := decide_eq_true (by omega)
    have HS : Hid (R = ([], 5)) := by show R = _; rw [HR.out]; unfold sayP maySay; rw [if_neg hno, if_pos (Or.inr (by rw [HN.out]; exact hl2)), if_pos (by simp)]
    clear HR hno hs hk hk2 hm hn
    go_enter Try.func18, Try.ntmps18
    go_wp2_with (first
      | (go_at_call 24; refine (isSeq_any seq hq.out).mono ?_; rintro e w2 ⟨rfl, rfl⟩))
    go_ret2
    rw [HS.out]
    exact ⟨none, 0, rfl, Sat.own_none.2 ⟨rfl, rfl, rfl, S1.tail⟩⟩
  have hd4 : decide ((32768 : Int) < (n : Int)) = false := decide_eq_false (by omega)
  have hkb : 0 ≤ kind ∧ kind < 256 := by omega
  have hkm : kind % 256 = kind := by omega
  have HS : Hid (R = encF (bodyB 82 kind seq nums data)) := by show R = _; rw [HR.out]; unfold sayP maySay; rw [if_neg hno, if_neg (by rw [HM.out, HN.out]; omega)]
  have HF := Lib.hid (framed_any S1 (mark := 82) (by omega) hkb hsq (c := c) (fun w' h => hR w' h.tail) hm (by omega) hI (d := d) (fun w' h => hRd w' h.tail) hn hB (by omega))
  rw [← HS.out] at HF
  clear HR hno hs hk hk2 hm hn hR hRd hI hB HS hl hl2
  go_enter Try.func18, Try.ntmps18
  go_wp2_with (first
    | (go_at_call 24; refine (isSeq_any seq hq.out).mono ?_; rintro e w2 ⟨rfl, rfl⟩)
    | (go_at_call 25; refine HF.out.mono ?_; unfold Encoded; rintro e w3 ⟨ao, cap, rfl, S3⟩))
  go_ret2
  exact ⟨ao, cap, rfl, S3.swap.tail⟩

end Go.Proofs.Ytlkmnbnphgfppaa
