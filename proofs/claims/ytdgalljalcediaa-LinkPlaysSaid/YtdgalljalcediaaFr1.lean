/-
  frame: laid; a record's head; Encode.
-/
import Derived.Test.YtdgalljalcediaaFrP
import Derived.Test.YtdgalljalcediaaFOct4
import Derived.Test.YtdgalljalcediaaFOctS
import Derived.Test.YtdgalljalcediaaSeg
namespace Go.Proofs.Ytdgalljalcediaa
open Go.RowKit Go.Sep Go.Oct
set_option linter.unusedSimpArgs false

theorem writer_new {W0 w : World} {L : List Asn} (S : Sat W0 w L) : Sat W0 (w.alloc (.cells #[.slice none 0 0] 95)) (Wr w.heap.size [] :: L) :=
  Wr_open.2 ⟨none, 0, (Sat.own_none.2 ⟨rfl, rfl, rfl, S.alloc [.slice none 0 0] 95⟩).sel [1]⟩
def Ent (K : Nat) : Prop := ∀ (args : Array Value) (w : World), (callFunc K args).run Try.prog w = .ok (.enter K args) w
def Lays (W0 : World) (F : List Asn) (K : Nat) (q : Nat) (bs : List Int) : Prop :=
  ∀ (p : Nat) (w : World), Sat W0 w (Wr p [] :: F) → Calls Try.prog K #[.pointer (some ⟨p, 0, none⟩), .pointer (some ⟨q, 0, none⟩)] w fun e w' => e = .returned (.tuple #[]) ∧ Sat W0 w' (Wr p bs :: F)
def Laid (W0 : World) (F : List Asn) (bs : List Int) (e : Ending) (w' : World) : Prop := ∃ ao cap, e = .returned (.slice ao bs.length cap) ∧ Sat W0 w' (sbs ao bs.length cap bs :: F)

set_option maxRecDepth 100000 in
theorem laid_any {W0 w : World} {F : List Asn} {K q : Nat} {bs : List Int} (hent : Ent K) (hK : Lays W0 F K q bs) (S : Sat W0 w F) (hb : bs.length ≤ 1000000000000) :
    Calls Try.prog 68 #[.func (.func K) #[] #[.pointer (some ⟨q, 0, none⟩)]] w (Laid W0 F bs) := by
  have S1 := writer_new S
  have HK : Hid (Lays W0 F K q bs) := hK
  unfold Ent at hent
  clear hK
  go_enter Try.func68, Try.ntmps68
  go_wp2_with (first
    | (refine (HK.out _ _ S1).mono ?_; rintro e w2 ⟨rfl, S2⟩)
    | (go_at_call 55; refine (out_any S2 (by omega)).mono ?_; rintro e w3 ⟨ao, cap, rfl, S3⟩))
  go_ret
  exact ⟨ao, cap, rfl, S3.swap.tail⟩

set_option maxRecDepth 100000 in
theorem headOf1_any {W0 : World} {F : List Asn} {q : Nat} {n : Int} (h0 : 0 ≤ n) (h1 : n < 4294967296) : Lays W0 (blk q [.int .i64 n] 3 :: F) 73 q (four4 n) := by
  intro p w S
  have c0 := S.cell 1 rfl 0
  simp only [List.getElem?_cons_zero] at c0
  go_enter Try.func73, Try.ntmps73
  go_wp2_with (first
    | (go_at_call 70; refine (wFour_any S n h0 h1 (by simp)).mono ?_; rintro e w2 ⟨rfl, S2⟩))
  go_end0
  exact ⟨rfl, S2⟩

set_option maxRecDepth 100000 in
theorem headOf2_any {W0 : World} {F : List Asn} {q n : Nat} {ao : Option Addr} {cap : Nat} {bs : List Int} (hB : Bytes bs) (hn : bs.length = n) (hb : n ≤ 1099511627776) : Lays W0 (blk q [.slice ao n cap] 29 :: sbs ao n cap bs :: F) 74 q (crcB bs) := by
  intro p w S
  have c0 := S.cell 1 rfl 0
  simp only [List.getElem?_cons_zero] at c0
  have hr := (S.sel [2]).own_rd
  have HB := crc_bd bs
  go_enter Try.func74, Try.ntmps74
  go_wp2_with (first
    | (go_at_call 64; refine (sum_any hr hn hB hb).mono ?_; rintro e w2 ⟨rfl, rfl⟩)
    | (go_at_call 70; refine (wFour_any S _ HB.1 HB.2 (by simp)).mono ?_; rintro e w3 ⟨rfl, S2⟩))
  go_end0
  exact ⟨rfl, S2⟩

set_option maxRecDepth 100000 in
theorem encode1_any {W0 : World} {F : List Asn} {q n : Nat} {ao : Option Addr} {cap : Nat} {bs : List Int} (hB : Bytes bs) (hn : bs.length = n) (hb : n ≤ 1099511627776) : Lays W0 (blk q [.slice ao n cap] 29 :: sbs ao n cap bs :: F) 69 q (crcB bs) := by
  intro p w S
  have c0 := S.cell 1 rfl 0
  simp only [List.getElem?_cons_zero] at c0
  have hr := (S.sel [2]).own_rd
  have HB := crc_bd bs
  go_enter Try.func69, Try.ntmps69
  go_wp2_with (first
    | (go_at_call 64; refine (sum_any hr hn hB hb).mono ?_; rintro e w2 ⟨rfl, rfl⟩)
    | (go_at_call 70; refine (wFour_any S _ HB.1 HB.2 (by simp)).mono ?_; rintro e w3 ⟨rfl, S2⟩))
  go_end0
  exact ⟨rfl, S2⟩

theorem ent_h1 : Ent 73 := by
  unfold Ent
  intro args w
  simp [go_sem]
theorem ent_h2 : Ent 74 := by
  unfold Ent
  intro args w
  simp [go_sem]
theorem ent_e1 : Ent 69 := by
  unfold Ent
  intro args w
  simp [go_sem]

set_option maxRecDepth 100000 in
theorem headOf_any {W0 w : World} {L : List Asn} (S : Sat W0 w L) {n : Int} (h0 : 0 ≤ n) (h1 : n < 4294967296) :
    Calls Try.prog 63 #[.int .i64 n] w (Laid W0 L (headP n)) := by
  have S1 := S.alloc [.int .i64 n] 3
  obtain ⟨i0, hi, hz0, hz1, hz2⟩ := info_parts Try.infoB
  go_enter Try.func63, Try.ntmps63
  go_wp2_with (first
    | (go_at_call 68; refine (laid_any ent_h1 (headOf1_any h0 h1) S1 (by rw [four4_length]; omega)).mono ?_; unfold Laid; rintro e w2 ⟨ao, cap, rfl, S2⟩))
  have S3 := (S2.alloc [.slice ao (four4 n).length cap] 29).drew
  have c3 := S3.cell 0 rfl 0
  simp only [List.getElem?_cons_zero] at c3
  refine wp_region_drawn (N := 5) (LN := #[false, false, false, false, false]) (by kernel_rfl) (by kernel_rfl) (by kernel_rfl) ?_
  refine wpAny_held (fun w' => w'.cell? ⟨w2.heap.size, 0, none⟩ = some (.slice ao (four4 n).length cap)) c3 (fun hHeld => ?_)
  refine wpAnyH_tk (i := 0) (v := ?_) (LN := #[true, false, false, false, false]) rfl (by kernel_rfl) (by kernel_rfl) (by kernel_rfl) (fun _ _ _ h => h) (by kernel_rfl) (by rfl) (by assumption) ?_ ?_
  rotate_left
  · intro w hSw; (try dsimp only at hSw); first | (go_simp; done) | (go_simp; with_reducible rfl)
  try simp only [Act.put, List.getElem_toArray, List.getElem_cons_zero, List.getElem_cons_succ, List.setIfInBounds_toArray, List.set_cons_zero, List.set_cons_succ]
  refine wpAnyH_tk (i := 1) (v := ?_) (LN := #[true, true, false, false, false]) rfl (by kernel_rfl) (by kernel_rfl) (by kernel_rfl) (fun _ _ _ h => h) (by kernel_rfl) (by rfl) (by assumption) ?_ ?_
  rotate_left
  · intro w hSw; (try dsimp only at hSw); first | (go_simp; done) | (go_simp; with_reducible rfl)
  try simp only [Act.put, List.getElem_toArray, List.getElem_cons_zero, List.getElem_cons_succ, List.setIfInBounds_toArray, List.set_cons_zero, List.set_cons_succ]
  refine wpAnyH_one (i := 2) (LN := #[true, true, true, false, false]) (by kernel_rfl) rfl (by kernel_rfl) ?_
  intro K hK
  go_simp
  go_at_call 68
  refine (laid_any ent_h2 (headOf2_any (four4_bytes h0 h1) rfl (by rw [four4_length]; omega)) S3 (by show (four4 _).length ≤ _; rw [four4_length]; omega)).mono ?_
  unfold Laid
  rintro e w4 ⟨ao4, cap4, rfl, S4⟩
  have c4 := S4.cell 1 rfl 0
  simp only [List.getElem?_cons_zero] at c4
  go_wp2_with fail
  refine hK.out _ _ c4 ?_
  clear hK K hHeld
  intro hHeld
  try simp only [Act.put, List.getElem_toArray, List.getElem_cons_zero, List.getElem_cons_succ, List.setIfInBounds_toArray, List.set_cons_zero, List.set_cons_succ]
  refine wpAnyH_one (i := 3) (LN := #[true, true, true, true, false]) (by kernel_rfl) rfl (by kernel_rfl) ?_
  intro K hK
  refine step_append_sat rfl _ _ _ rfl 5 i0 (.int .u8 0) 1 1 Try.underlying29 hi hz0 hz1 hz2 rfl (by decide) (S4.sel [2]) rfl rfl S4.own_rd (by rw [bv_length, Nat.mul_one]) (bv_one _) (by rw [four4_length]; show 4 + (four4 _).length ≤ _; rw [four4_length]; unfold maxLen; omega) (by rw [four4_length]; show (4 + (four4 _).length) * 1 ≤ _; rw [four4_length]; omega) ?_
  intro ao5 cap5 w5 S5
  rw [← bv_append] at S5
  have c5 := S5.cell 2 rfl 0
  simp only [List.getElem?_cons_zero] at c5
  refine hK.out _ _ c5 ?_
  clear hK K hHeld
  intro hHeld
  try simp only [Act.put, List.getElem_toArray, List.getElem_cons_zero, List.getElem_cons_succ, List.setIfInBounds_toArray, List.set_cons_zero, List.set_cons_succ]
  refine wpAnyH_tk (i := 4) (v := ?_) (LN := #[true, true, true, true, true]) rfl (by kernel_rfl) (by kernel_rfl) (by kernel_rfl) (fun _ _ _ h => h) (by kernel_rfl) (by rfl) (by assumption) ?_ ?_
  rotate_left
  · intro w hSw; (try dsimp only at hSw); first | (go_simp; done) | (go_simp; with_reducible rfl)
  try simp only [Act.put, List.getElem_toArray, List.getElem_cons_zero, List.getElem_cons_succ, List.setIfInBounds_toArray, List.set_cons_zero, List.set_cons_succ]
  refine ⟨by kernel_rfl, ?_⟩
  try simp only [Act.put, List.getElem_toArray, List.getElem_cons_zero, List.getElem_cons_succ, List.setIfInBounds_toArray, List.set_cons_zero, List.set_cons_succ]
  go_wp2_with fail
  go_ret
  exact ⟨ao5, cap5, rfl, ((S5.sel [1]).tail.sel [1]).tail.swap.tail⟩

set_option maxRecDepth 100000 in
theorem fEncode_any {W0 w : World} {L : List Asn} (S : Sat W0 w L) {a : Option Addr} {m c : Nat} {xs : List Int} (hR : ∀ w', Sat W0 w' L → Rd w' a (bv xs)) (hm : xs.length = m) (hB : Bytes xs) (hb : m ≤ 1000000000) :
    Calls Try.prog 54 #[.slice a m c] w fun e w' => ∃ ao cap, e = .returned (.tuple #[.slice ao (encF xs).1.length cap, .int .i64 (encF xs).2]) ∧ Sat W0 w' (sbs ao (encF xs).1.length cap (encF xs).1 :: L) := by
  obtain ⟨i0, hi, hz0, hz1, hz2⟩ := info_parts Try.infoB
  by_cases hbig : 65536 < m
  · have he : encF xs = ([], 5) := by unfold encF; rw [if_pos (by omega)]
    rw [he]
    go_enter Try.func54, Try.ntmps54
    go_wp2_with fail
    go_ret2
    exact ⟨none, 0, rfl, Sat.own_none.2 ⟨rfl, rfl, rfl, S⟩⟩
  · have he : encF xs = (recP xs, 0) := by unfold encF; rw [if_neg (by omega)]
    rw [he]
    have HM := Lib.hid hm
    have HR := Lib.hid hR
    have h65 : decide ((65536 : Int) < (m : Int)) = false := decide_eq_false (by omega)
    clear hm hR he
    go_enter Try.func54, Try.ntmps54
    go_wp2_with (first
      | (go_at_call 63; refine (headOf_any S (n := (m : Int)) (by omega) (by omega)).mono ?_; unfold Laid; rintro e w2 ⟨ao, cap, rfl, S2⟩)
      | (at_builtin; refine wpList_append_sat rfl (.tmp 10) (.tmp 11) _ rfl 5 i0 (.int .u8 0) 1 1 Try.underlying29 hi hz0 hz1 hz2 rfl (by decide) S2 rfl rfl (HR.out _ S2.tail) (by rw [bv_length, HM.out, Nat.mul_one]) (bv_one _) (by rw [headP_length]; unfold maxLen; omega) (by rw [headP_length]; omega) ?_; intro ao3 cap3 w3 S3; rw [← bv_append] at S3))
    have hbl : (headP (m : Int) ++ xs).length = (headP (m : Int)).length + m := by rw [List.length_append, HM.out]
    have HBL := Lib.hid hbl
    have hbb : Bytes (headP (m : Int) ++ xs) := (headP_bytes (by omega) (by omega)).append hB
    have hlen : (headP (m : Int)).length + m ≤ 70000 := by rw [headP_length]; omega
    have HRP : Hid (recP xs = headP (m : Int) ++ xs ++ crcB (headP (m : Int) ++ xs)) := by show recP xs = _; unfold recP; rw [HM.out]
    generalize headP (m : Int) ++ xs = bs at S3 hbb HRP HBL hbl
    have hcl : (crcB bs).length = 4 := rfl
    generalize (headP (m : Int)).length + m = nb at S3 ⊢ HBL hlen hbl
    have S4 := (S3.alloc [.slice ao3 nb cap3] 29).drew
    have c4 := S4.cell 0 rfl 0
    simp only [List.getElem?_cons_zero] at c4
    clear hbl
    refine wp_region_drawn (N := 6) (LN := #[false, false, false, false, false, false]) (by kernel_rfl) (by kernel_rfl) (by kernel_rfl) ?_
    refine wpAny_held (fun w' => w'.cell? ⟨w3.heap.size, 0, none⟩ = some (.slice ao3 nb cap3)) c4 (fun hHeld => ?_)
    refine wpAnyH_tk (i := 0) (v := ?_) (LN := #[true, false, false, false, false, false]) rfl (by kernel_rfl) (by kernel_rfl) (by kernel_rfl) (fun _ _ _ h => h) (by kernel_rfl) (by rfl) (by assumption) ?_ ?_
    rotate_left
    · intro w hSw; (try dsimp only at hSw); first | (go_simp; done) | (go_simp; with_reducible rfl)
    try simp only [Act.put, List.getElem_toArray, List.getElem_cons_zero, List.getElem_cons_succ, List.setIfInBounds_toArray, List.set_cons_zero, List.set_cons_succ]
    refine wpAnyH_tk (i := 1) (v := ?_) (LN := #[true, true, false, false, false, false]) rfl (by kernel_rfl) (by kernel_rfl) (by kernel_rfl) (fun _ _ _ h => h) (by kernel_rfl) (by rfl) (by assumption) ?_ ?_
    rotate_left
    · intro w hSw; (try dsimp only at hSw); first | (go_simp; done) | (go_simp; with_reducible rfl)
    try simp only [Act.put, List.getElem_toArray, List.getElem_cons_zero, List.getElem_cons_succ, List.setIfInBounds_toArray, List.set_cons_zero, List.set_cons_succ]
    refine wpAnyH_one (i := 2) (LN := #[true, true, true, false, false, false]) (by kernel_rfl) rfl (by kernel_rfl) ?_
    intro K hK
    go_simp
    go_at_call 68
    refine (laid_any ent_e1 (encode1_any hbb HBL.out (by omega)) S4 (by rw [hcl]; omega)).mono ?_
    unfold Laid
    rintro e w5 ⟨ao5, cap5, rfl, S5⟩
    have c5 := S5.cell 1 rfl 0
    simp only [List.getElem?_cons_zero] at c5
    rw [hcl] at S5 ⊢
    go_wp2_with fail
    refine hK.out _ _ c5 ?_
    clear hK K hHeld
    intro hHeld
    try simp only [Act.put, List.getElem_toArray, List.getElem_cons_zero, List.getElem_cons_succ, List.setIfInBounds_toArray, List.set_cons_zero, List.set_cons_succ]
    refine wpAnyH_one (i := 3) (LN := #[true, true, true, true, false, false]) (by kernel_rfl) rfl (by kernel_rfl) ?_
    intro K hK
    refine step_append_sat rfl _ _ _ rfl 5 i0 (.int .u8 0) 1 1 Try.underlying29 hi hz0 hz1 hz2 rfl (by decide) (S5.sel [2]) rfl rfl S5.own_rd (by rw [bv_length, hcl]) (bv_one _) (by unfold maxLen; omega) (by omega) ?_
    intro ao6 cap6 w6 S6
    rw [← bv_append] at S6
    have c6 := S6.cell 2 rfl 0
    simp only [List.getElem?_cons_zero] at c6
    refine hK.out _ _ c6 ?_
    clear hK K hHeld
    intro hHeld
    try simp only [Act.put, List.getElem_toArray, List.getElem_cons_zero, List.getElem_cons_succ, List.setIfInBounds_toArray, List.set_cons_zero, List.set_cons_succ]
    refine wpAnyH_tk (i := 4) (v := ?_) (LN := #[true, true, true, true, true, false]) rfl (by kernel_rfl) (by kernel_rfl) (by kernel_rfl) (fun _ _ _ h => h) (by kernel_rfl) (by rfl) (by assumption) ?_ ?_
    rotate_left
    · intro w hSw; (try dsimp only at hSw); first | (go_simp; done) | (go_simp; with_reducible rfl)
    try simp only [Act.put, List.getElem_toArray, List.getElem_cons_zero, List.getElem_cons_succ, List.setIfInBounds_toArray, List.set_cons_zero, List.set_cons_succ]
    refine wpAnyH_tk (i := 5) (v := ?_) (LN := #[true, true, true, true, true, true]) rfl (by kernel_rfl) (by kernel_rfl) (by kernel_rfl) (fun _ _ _ h => h) (by kernel_rfl) (by rfl) (by assumption) ?_ ?_
    rotate_left
    · intro w hSw; (try dsimp only at hSw); first | (go_simp; done) | (go_simp; with_reducible rfl)
    try simp only [Act.put, List.getElem_toArray, List.getElem_cons_zero, List.getElem_cons_succ, List.setIfInBounds_toArray, List.set_cons_zero, List.set_cons_succ]
    refine ⟨by kernel_rfl, ?_⟩
    try simp only [Act.put, List.getElem_toArray, List.getElem_cons_zero, List.getElem_cons_succ, List.setIfInBounds_toArray, List.set_cons_zero, List.set_cons_succ]
    go_wp2_with fail
    go_ret2
    refine ⟨ao6, cap6, ?_, ?_⟩
    · show Ending.returned (.tuple #[.slice ao6 (nb + 4) cap6, .int .i64 0]) = Ending.returned (.tuple #[.slice ao6 (recP xs).length cap6, .int .i64 0])
      rw [HRP.out, List.length_append, HBL.out, hcl]
    · show Sat W0 _ (slc 5 1 ao6 (recP xs).length cap6 (bv (recP xs)) :: L)
      rw [HRP.out, List.length_append, HBL.out, hcl]
      exact ((S6.sel [1]).tail.sel [1]).tail
end Go.Proofs.Ytdgalljalcediaa
