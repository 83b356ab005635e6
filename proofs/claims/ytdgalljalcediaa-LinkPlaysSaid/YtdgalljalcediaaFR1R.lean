/-
  Chapter 1's document: its Reader.
-/
import Derived.Test.YtdgalljalcediaaFOct4
import Derived.Laws.MakeOwn
import Derived.Deep.QuietTactic
import Derived.BigQuiet
namespace Go.Proofs.Ytdgalljalcediaa
open Go.RowKit Go.Sep Go.Oct

/-- the document's Reader: what is left lies in memory that stays -/
def R1 (p : Nat) (ao : Option Addr) (n cap : Nat) (e : Int) : Asn := blk p [.slice ao n cap, .int .i64 e] 82
structure Rest (W0 : World) (L : List Asn) (ao : Option Addr) (n cap : Nat) (bs : List Int) : Prop where
  rd : ∀ w', Sat W0 w' L → Rd w' ao (bv bs)
  len : bs.length = n
  le : n ≤ cap
  top : cap ≤ maxLen
  bytes : Bytes bs

def Raw (W0 : World) (K L : List Asn) (p n : Nat) (bs : List Int) (e0 : Int) (e : Ending) (w' : World) : Prop :=
  ∃ ao c ao' n' cap', Rest W0 K ao' n' cap' (tk n bs e0).2.1 ∧ e = .returned (.slice ao n c) ∧ n ≤ c ∧ c ≤ maxLen ∧ Rd w' ao (bv (if (tk n bs e0).2.2 = 0 then (tk n bs e0).1 else List.replicate n 0)) ∧ Sat W0 w' (R1 p ao' n' cap' (tk n bs e0).2.2 :: L)

set_option maxRecDepth 100000 in
theorem raw_ok {W0 w : World} {K L : List Asn} (hK : ∀ w', Sat W0 w' L → Sat W0 w' K) {p : Nat} {ao : Option Addr} {m cap : Nat} {bs : List Int} (H : Rest W0 K ao m cap bs) (S : Sat W0 w (R1 p ao m cap 0 :: L)) (n : Nat) (hn : 1 ≤ n) (hnm : n ≤ m) :
    Calls Try.prog 58 #[.pointer (some ⟨p, 0, none⟩), .int .i64 n] w (Raw W0 K L p n bs 0) := by
  have S' : Sat W0 w (blk p [.slice ao m cap, .int .i64 0] 82 :: L) := S
  have c0 := S'.cell 0 rfl 0
  have c1 := S'.cell 0 rfl 1
  have f0 := S'.frozen 0 rfl 0
  simp only [List.getElem?_cons_zero, List.getElem?_cons_succ] at c0 c1
  have hl := H.len
  have hle := H.le
  have htop := H.top
  unfold maxLen at htop
  obtain ⟨b, off, rfl⟩ : ∃ b off, ao = some ⟨b, off, none⟩ := by
    have h0 : (bv bs)[0]? = some (.int .u8 (bs[0]'(by omega))) := by unfold bv; rw [List.getElem?_map, List.getElem?_eq_getElem (by omega)]; rfl
    obtain ⟨b, off, h1, _⟩ := H.rd _ (hK _ S.tail) _ _ h0
    exact ⟨b, off, h1⟩
  have n0 : (0 : Int) ≤ (n : Int) := Int.natCast_nonneg _
  have nI : (n : Int) ≤ (m : Int) := by omega
  have hd : decide (m < n) = false := decide_eq_false (by omega)
  have htk : tk n bs 0 = (bs.take n, bs.drop n, 0) := by unfold tk; rw [if_neg (by simp), if_neg (by omega)]
  have HT := Lib.hid htk
  clear htk
  by_cases hcn : cap = n
  · obtain rfl : n = cap := hcn.symm
    have S2 := S'.setCell 0 (k := 0) (v := .slice (some ⟨b, off, none⟩) 0 0) rfl
    go_enter Try.func58, Try.ntmps58
    go_wp2_with fail
    go_ret
    refine ⟨some ⟨b, off, none⟩, n, some ⟨b, off, none⟩, 0, 0, ⟨fun w' h => ?_, ?_, by omega, by unfold maxLen; omega, ?_⟩, rfl, by omega, by unfold maxLen; omega, ?_, ?_⟩
    · rw [HT.out]
      have hz : bs.drop n = [] := List.drop_of_length_le (by omega)
      rw [hz]
      exact Rd.nil _ _
    · rw [HT.out]
      simp only [List.length_drop]
      omega
    · rw [HT.out]
      exact H.bytes.drop n
    · rw [HT.out]
      simp only [if_true]
      have := (H.rd _ (hK _ S2.tail)).take n
      unfold bv at this ⊢
      rw [List.map_take]
      exact this
    · rw [HT.out]
      exact S2
  · have hcn' : (cap == n) = false := by simpa using hcn
    have S2 := S'.setCell 0 (k := 0) (v := .slice (some ⟨b, off + n, none⟩) (m - n) (cap - n)) rfl
    go_enter Try.func58, Try.ntmps58
    go_wp2_with fail
    go_ret
    refine ⟨some ⟨b, off, none⟩, cap, some ⟨b, off + n, none⟩, m - n, cap - n, ⟨fun w' h => ?_, ?_, by omega, by unfold maxLen; omega, ?_⟩, rfl, by omega, by unfold maxLen; omega, ?_, ?_⟩
    · rw [HT.out]
      have := (H.rd w' h).drop n
      unfold bv at this ⊢
      rw [List.map_drop]
      exact this
    · rw [HT.out]
      simp only [List.length_drop]
      omega
    · rw [HT.out]
      exact H.bytes.drop n
    · rw [HT.out]
      simp only [if_true]
      have := (H.rd _ (hK _ S2.tail)).take n
      unfold bv at this ⊢
      rw [List.map_take]
      exact this
    · rw [HT.out]
      exact S2
theorem made_b (n : Nat) : madeCells (Value.int .u8 0).cells n = (bv (List.replicate n 0)).toArray := by
  apply Array.ext
  · simp [madeCells, bv]
  · intro i h1 h2
    simp [madeCells, Value.cells, bv, Nat.mod_one]
theorem mk_b (w : World) (n : Nat) (hn : n ≤ 600) : (Instr.makeSlice 29 (.int .i64 n) (.int .i64 n)).run Try.prog w = .ok (.slice (some ⟨w.heap.size, 0, none⟩) n n) (w.alloc (.cells (bv (List.replicate n 0)).toArray 5)) := by
  obtain ⟨i0, hi, hz0, hz1, hz2⟩ := info_parts Try.infoB
  have h := run_make (P := Try.prog) w 29 5 i0 (.int .u8 0) Try.underlying29 hi hz0 .i64 .i64 (n : Int) (n : Int) (by omega) (by omega) (by rw [hz2]; omega) (by omega)
  rw [h, hz1, Int.toNat_natCast, Nat.mul_one, made_b]

set_option maxRecDepth 100000 in
theorem raw_err {W0 w : World} {K L : List Asn} (hK : ∀ w', Sat W0 w' L → Sat W0 w' K) {p : Nat} {ao : Option Addr} {m cap : Nat} {bs : List Int} {e0 : Int} (H : Rest W0 K ao m cap bs) (h0 : e0 ≠ 0 → bs = []) (S : Sat W0 w (R1 p ao m cap e0 :: L)) (n : Nat) (hn : 1 ≤ n) (hn32 : n ≤ 32) (hbad : e0 ≠ 0 ∨ m < n) :
    Calls Try.prog 58 #[.pointer (some ⟨p, 0, none⟩), .int .i64 n] w (Raw W0 K L p n bs e0) := by
  have S' : Sat W0 w (blk p [.slice ao m cap, .int .i64 e0] 82 :: L) := S
  have c0 := S'.cell 0 rfl 0
  have c1 := S'.cell 0 rfl 1
  have f0 := S'.frozen 0 rfl 0
  have f1 := S'.frozen 0 rfl 1
  simp only [List.getElem?_cons_zero, List.getElem?_cons_succ] at c0 c1
  have hl := H.len
  have hu := fun w => mk_b w n (by omega)
  have n0 : (0 : Int) ≤ (n : Int) := Int.natCast_nonneg _
  have nI : (n : Int) ≤ 32 := by omega
  by_cases he : e0 = 0
  · subst he
    have hd : decide (m < n) = true := decide_eq_true (by omega)
    go_enter Try.func58, Try.ntmps58
    go_wp2_with fail
    go_ret
    have htk : tk n bs 0 = ([], [], 2) := by unfold tk; rw [if_neg (by simp), if_pos (by omega)]
    have S2 := ((S'.setCell 0 (k := 1) (v := .int .i64 2) rfl).setCell 0 (k := 0) (v := .slice none 0 0) rfl).alloc (bv (List.replicate n 0)) 5
    refine ⟨some ⟨w.heap.size, 0, none⟩, n, none, 0, 0, ⟨fun w' h => ?_, ?_, by omega, by unfold maxLen; omega, ?_⟩, rfl, by omega, by unfold maxLen; omega, ?_, ?_⟩
    · rw [htk]; exact Rd.nil _ _
    · rw [htk]; rfl
    · rw [htk]; intro x hx; simp at hx
    · rw [htk]
      simp only [show ¬ ((2 : Int) = 0) by decide, if_false]
      have := Rd.lit (S2.block 0 rfl).1
      have hsz : ((w.setCell ⟨p, 1, none⟩ (.int .i64 2)).setCell ⟨p, 0, none⟩ (.slice none 0 0)).heap.size = w.heap.size := by simp [World.setCell]
      rw [hsz] at this
      exact this
    · rw [htk]
      exact S2.tail
  · have hbs := h0 he
    subst hbs
    obtain rfl : m = 0 := by simpa using hl.symm
    have hz : (e0 == 0) = false := by simpa using he
    have hz2 : (e0 != 0) = true := by simpa using he
    have htk : tk n [] e0 = ([], [], e0) := by unfold tk; rw [if_pos he]
    have S2 := (S'.setCell 0 (k := 0) (v := .slice none 0 0) rfl).alloc (bv (List.replicate n 0)) 5
    go_enter Try.func58, Try.ntmps58
    go_wp2_with fail
    go_ret
    refine ⟨some ⟨w.heap.size, 0, none⟩, n, none, 0, 0, ⟨fun w' h => ?_, ?_, by omega, by unfold maxLen; omega, ?_⟩, rfl, by omega, by unfold maxLen; omega, ?_, ?_⟩
    · rw [htk]; exact Rd.nil _ _
    · rw [htk]; rfl
    · rw [htk]; intro x hx; simp at hx
    · rw [htk]
      simp only [he, if_false]
      have := Rd.lit (S2.block 0 rfl).1
      have hsz : (w.setCell ⟨p, 0, none⟩ (.slice none 0 0)).heap.size = w.heap.size := by simp [World.setCell]
      rw [hsz] at this
      exact this
    · rw [htk]
      exact S2.tail

theorem raw_any {W0 w : World} {K L : List Asn} (hK : ∀ w', Sat W0 w' L → Sat W0 w' K) {p : Nat} {ao : Option Addr} {m cap : Nat} {bs : List Int} {e0 : Int} (H : Rest W0 K ao m cap bs) (h0 : e0 ≠ 0 → bs = []) (S : Sat W0 w (R1 p ao m cap e0 :: L)) (n : Nat) (hn : 1 ≤ n) (hn32 : n ≤ 32) :
    Calls Try.prog 58 #[.pointer (some ⟨p, 0, none⟩), .int .i64 n] w (Raw W0 K L p n bs e0) := by
  by_cases hbad : e0 ≠ 0 ∨ m < n
  · exact raw_err hK H h0 S n hn hn32 hbad
  · obtain rfl : e0 = 0 := by omega
    exact raw_ok hK H S n hn (by omega)

theorem tk_short {n : Nat} {bs : List Int} (h : bs.length < n) : tk n bs 0 = ([], [], 2) := by unfold tk; rw [if_neg (by simp), if_pos h]
theorem tk_enough {n : Nat} {bs : List Int} (h : ¬ bs.length < n) : tk n bs 0 = (bs.take n, bs.drop n, 0) := by unfold tk; rw [if_neg (by simp), if_neg h]
theorem tk_had {n : Nat} {bs : List Int} {e0 : Int} (h : e0 ≠ 0) : tk n bs e0 = ([], bs, e0) := by unfold tk; rw [if_pos h]
theorem tk_one (bs : List Int) (e0 : Int) : ∃ v, (if (tk 1 bs e0).2.2 = 0 then (tk 1 bs e0).1 else List.replicate 1 0) = [v] ∧ le (tk 1 bs e0).1 = v := by
  by_cases he : e0 = 0
  · subst he
    cases bs with
    | nil => rw [tk_short (by decide)]; exact ⟨0, rfl, rfl⟩
    | cons c r => rw [tk_enough (by simp)]; exact ⟨c, rfl, by simp [le]⟩
  · rw [tk_had he]
    exact ⟨0, by simp only [he, if_false]; rfl, rfl⟩
theorem tk_four {bs : List Int} (hB : Bytes bs) (e0 : Int) : ∃ a b c d, (if (tk 4 bs e0).2.2 = 0 then (tk 4 bs e0).1 else List.replicate 4 0) = [a, b, c, d] ∧ le (tk 4 bs e0).1 = a + b * 256 + c * 65536 + d * 16777216 ∧
    (0 ≤ a ∧ a < 256) ∧ (0 ≤ b ∧ b < 256) ∧ (0 ≤ c ∧ c < 256) ∧ (0 ≤ d ∧ d < 256) := by
  by_cases he : e0 = 0
  · subst he
    by_cases hs : bs.length < 4
    · rw [tk_short hs]; exact ⟨0, 0, 0, 0, rfl, rfl, by omega, by omega, by omega, by omega⟩
    · obtain ⟨a, b, c, d, r, rfl⟩ : ∃ a b c d r, bs = a :: b :: c :: d :: r := by
        match bs, hs with
        | [], h => exact absurd (by decide) h
        | [_], h => exact absurd (by show 1 < 4; decide) h
        | [_, _], h => exact absurd (by show 2 < 4; decide) h
        | [_, _, _], h => exact absurd (by show 3 < 4; decide) h
        | a :: b :: c :: d :: r, _ => exact ⟨a, b, c, d, r, rfl⟩
      rw [tk_enough hs]
      exact ⟨a, b, c, d, rfl, by show a + 256 * (b + 256 * (c + 256 * (d + 256 * 0))) = _; omega, hB a (by simp), hB b (by simp), hB c (by simp), hB d (by simp)⟩
  · rw [tk_had he]
    exact ⟨0, 0, 0, 0, by simp only [he, if_false]; rfl, rfl, by omega, by omega, by omega, by omega⟩
theorem tk_err {n : Nat} {bs : List Int} {e0 : Int} (h0 : e0 ≠ 0 → bs = []) (h : (tk n bs e0).2.2 ≠ 0) : (tk n bs e0).2.1 = [] := by
  by_cases he : e0 = 0
  · subst he
    by_cases hs : bs.length < n
    · rw [tk_short hs]
    · rw [tk_enough hs] at h; exact absurd rfl h
  · rw [tk_had he]; exact h0 he

theorem or_part {y x : Int} {P i : Nat} (hP : P = 2 ^ i) (hy : 0 ≤ y ∧ y < (P : Int)) (hx : 0 ≤ x ∧ x < 256) (hP2 : (P : Int) * 256 ≤ 4294967296) : bits .or .u32 y (x * (P : Int)) = y + x * (P : Int) := by
  have h1 : x * (P : Int) ≤ 255 * (P : Int) := Int.mul_le_mul_of_nonneg_right (by omega) (by omega)
  have h0 : 0 ≤ x * (P : Int) := Int.mul_nonneg hx.1 (by omega)
  rw [u32_or _ _ hy.1 (by omega) h0 (by omega)]
  obtain ⟨yn, rfl⟩ := Int.eq_ofNat_of_zero_le hy.1
  obtain ⟨xn, rfl⟩ := Int.eq_ofNat_of_zero_le hx.1
  rw [Int.toNat_natCast, show ((xn : Int) * (P : Int)).toNat = P * xn by rw [← Int.natCast_mul, Int.toNat_natCast, Nat.mul_comm], hP, or_above _ _ _ (by rw [← hP]; omega)]
  rw [Int.natCast_add, Int.natCast_mul, Int.mul_comm]

def Given (W0 : World) (K L : List Asn) (p : Nat) (v : Value) (bs : List Int) (e1 : Int) (e : Ending) (w' : World) : Prop :=
  ∃ ao' n' cap', Rest W0 K ao' n' cap' bs ∧ e = .returned v ∧ Sat W0 w' (R1 p ao' n' cap' e1 :: L)

set_option maxRecDepth 100000 in
theorem r1Byte_any {W0 w : World} {K L : List Asn} (hK : ∀ w', Sat W0 w' L → Sat W0 w' K) {p : Nat} {ao : Option Addr} {m cap : Nat} {bs : List Int} {e0 : Int} (H : Rest W0 K ao m cap bs) (h0 : e0 ≠ 0 → bs = []) (S : Sat W0 w (R1 p ao m cap e0 :: L)) :
    Calls Try.prog 57 #[.pointer (some ⟨p, 0, none⟩)] w (Given W0 K L p (.int .u8 (le (tk 1 bs e0).1)) (tk 1 bs e0).2.1 (tk 1 bs e0).2.2) := by
  obtain ⟨v, hv, hle⟩ := tk_one bs e0
  have HV := Lib.hid hv
  have HLE := Lib.hid hle
  clear hv hle
  go_enter Try.func57, Try.ntmps57
  go_wp2_with (go_at_call 58; refine (raw_any hK H h0 S 1 (by omega) (by omega)).mono ?_; unfold Raw; rintro e w1 ⟨a1, c1, ao', n', cap', H1, rfl, hc1, hc2, hR, S1⟩; rw [HV.out] at hR; obtain ⟨b, off, rfl, cv⟩ := hR 0 (.int .u8 v) rfl; rw [Nat.add_zero] at cv)
  go_ret
  exact ⟨ao', n', cap', H1, by rw [HLE.out]; rfl, S1⟩

set_option maxRecDepth 100000 in
theorem r1Four_any {W0 w : World} {K L : List Asn} (hK : ∀ w', Sat W0 w' L → Sat W0 w' K) {p : Nat} {ao : Option Addr} {m cap : Nat} {bs : List Int} {e0 : Int} (H : Rest W0 K ao m cap bs) (h0 : e0 ≠ 0 → bs = []) (S : Sat W0 w (R1 p ao m cap e0 :: L)) :
    Calls Try.prog 75 #[.pointer (some ⟨p, 0, none⟩)] w (Given W0 K L p (.int .u32 (le (tk 4 bs e0).1)) (tk 4 bs e0).2.1 (tk 4 bs e0).2.2) := by
  obtain ⟨x0, x1, x2, x3, hv, hle, b0, b1, b2, b3⟩ := tk_four H.bytes e0
  have HV := Lib.hid hv
  have HLE := Lib.hid hle
  clear hv hle
  go_enter Try.func75, Try.ntmps75
  go_wp2_with (go_at_call 58; refine (raw_any hK H h0 S 4 (by omega) (by omega)).mono ?_; unfold Raw; rintro e w1 ⟨a1, c1, ao', n', cap', H1, rfl, hc1, hc2, hR, S1⟩; rw [HV.out] at hR; obtain ⟨b, off, rfl, cv⟩ := hR 0 (.int .u8 x0) rfl; rw [Nat.add_zero] at cv; have cv1 := hR.at (j := 1) (u := .int .u8 x1) rfl; have cv2 := hR.at (j := 2) (u := .int .u8 x2) rfl; have cv3 := hR.at (j := 3) (u := .int .u8 x3) rfl)
  go_quiet (fail)
  go_wp2_with fail
  go_ret
  refine ⟨ao', n', cap', H1, ?_, S1.drewN nq⟩
  have e1 : bits .or .u32 x0 (x1 * 256) = x0 + x1 * 256 := or_part (P := 256) (i := 8) rfl (by omega) b1 (by omega)
  have e2 : bits .or .u32 (x0 + x1 * 256) (x2 * 65536) = x0 + x1 * 256 + x2 * 65536 := or_part (P := 65536) (i := 16) rfl (by omega) b2 (by omega)
  have e3 : bits .or .u32 (x0 + x1 * 256 + x2 * 65536) (x3 * 16777216) = x0 + x1 * 256 + x2 * 65536 + x3 * 16777216 := or_part (P := 16777216) (i := 24) rfl (by omega) b3 (by omega)
  rw [HLE.out]
  show Ending.returned (Value.int .u32 (bits .or .u32 (bits .or .u32 (bits .or .u32 x0 (x1 * 256)) (x2 * 65536)) (x3 * 16777216))) = _
  rw [e1, e2, e3]

set_option maxRecDepth 100000 in
theorem r1End_any {W0 w : World} {K L : List Asn} {p : Nat} {ao : Option Addr} {m cap : Nat} {bs : List Int} {e0 : Int} (H : Rest W0 K ao m cap bs) (S : Sat W0 w (R1 p ao m cap e0 :: L)) :
    Calls Try.prog 35 #[.pointer (some ⟨p, 0, none⟩)] w fun e w' => e = .returned (.int .i64 (endOf bs e0)) ∧ w = w' := by
  have S' : Sat W0 w (blk p [.slice ao m cap, .int .i64 e0] 82 :: L) := S
  have c0 := S'.cell 0 rfl 0
  have c1 := S'.cell 0 rfl 1
  simp only [List.getElem?_cons_zero, List.getElem?_cons_succ] at c0 c1
  have hl := H.len
  by_cases he : e0 = 0
  · subst he
    by_cases hm : 0 < m
    · have hE : Hid (endOf bs 0 = 3) := by show _ = _; unfold endOf; rw [if_pos ⟨rfl, by omega⟩]
      have hmI : (0 : Int) < (m : Int) := by omega
      go_enter Try.func35, Try.ntmps35
      go_wp2_with fail
      go_ret
      exact ⟨by rw [hE.out]; rfl, rfl⟩
    · obtain rfl : m = 0 := by omega
      have hE : Hid (endOf bs 0 = 0) := by show _ = _; unfold endOf; rw [if_neg (by omega)]
      go_enter Try.func35, Try.ntmps35
      go_wp2_with fail
      go_ret
      exact ⟨by rw [hE.out]; rfl, rfl⟩
  · have hz : (e0 == 0) = false := by simpa using he
    have hE : Hid (endOf bs e0 = e0) := by show _ = _; unfold endOf; rw [if_neg (fun h => he h.1)]
    go_enter Try.func35, Try.ntmps35
    go_wp2_with fail
    go_ret
    exact ⟨by rw [hE.out]; rfl, rfl⟩
end Go.Proofs.Ytdgalljalcediaa
