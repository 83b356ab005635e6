/-
  The law LinkAnyBytes, walked.
-/
import Derived.Test.YtdgalljalcediaaLiK
import Derived.Test.YtdgalljalcediaaLiI
import Derived.Test.YtdgalljalcediaaLiR
import Derived.Test.YtdgalljalcediaaLiD5
import Derived.Test.YtdgalljalcediaaLiV
namespace Go.Proofs.Ytdgalljalcediaa
open Go.RowKit Go.Sep Go.Oct
set_option linter.unusedSimpArgs false

def totL : List (Sl Int) → Nat
  | [] => 0
  | r :: l => 10 + r.len + totL l
theorem totL_take : ∀ (l : List (Sl Int)) (k : Nat) (r : Sl Int), l[k]? = some r → totL (l.take (k + 1)) = totL (l.take k) + 10 + r.len
  | [], k, r, h => by simp at h
  | a :: l, 0, r, h => by cases h; simp [totL]
  | a :: l, k + 1, r, h => by
    have := totL_take l k r (by simpa using h)
    simp only [List.take_succ_cons, totL]
    omega
theorem totL_mem : ∀ {l : List (Sl Int)} {k : Nat} {r : Sl Int}, l[k]? = some r → 10 + r.len ≤ totL l
  | [], k, r, h => by simp at h
  | a :: l, 0, r, h => by cases h; simp [totL]
  | a :: l, k + 1, r, h => by
    have := totL_mem (l := l) (k := k) (r := r) (by simpa using h)
    simp only [totL]
    omega
theorem totL_len : ∀ l : List (Sl Int), 10 * l.length ≤ totL l
  | [] => by simp [totL]
  | a :: l => by have := totL_len l; simp only [totL, List.length_cons]; omega
theorem Sat.two {W0 w : World} {A B : Asn} {L : List Asn} (S : Sat W0 w (A :: B :: L)) : Sat W0 w [A, B] := ⟨S.below, star_mono (fun _ h => h) (fun _ => star_mono (fun _ h => h) (fun _ _ => True.intro)) S.own⟩
set_option maxRecDepth 100000 in
set_option maxHeartbeats 6400000 in
theorem LinkAnyBytes_walk {w : World} {l : Sl (Sl Int)} (hl : BRows w l) {id : Int} (hid : I64 id) :
    Calls Try.prog 5 #[.slice l.ao l.len l.cap, .int .i64 id] w fun e w' => e = .returned (.bool true) ∧ Below w.heap.size w w' := by
  obtain ⟨ao, ln, cap, els, xs⟩ := l
  have S0 := Sat.start w
  have hlen : xs.length = ln := hl.len
  have hlm : ln ≤ 140737488351232 := hl.reach
  have HL := Lib.hid hl
  have HLEN := Lib.hid hlen
  have HID := Lib.hid hid
  clear hl hlen hid
  dsimp only
  go_enter Try.func5, Try.ntmps5
  go_wp2_with fail
  go_loopw [5, 6] (fun n i wr => ∃ k t : Nat, k ≤ ln ∧ i = .int .i64 k ∧ n = .int .i64 t ∧ Hid (t = totL (xs.take k)) ∧ wr = w) (fun _ i _ => ln - (intOf i).toNat)
  case atStart => exact ⟨0, 0, by omega, rfl, rfl, rfl, rfl⟩
  case round =>
    obtain ⟨k, t, hk, rfl, rfl, HT, hwr⟩ := hrel
    have hwr' := hwr.symm
    clear hwr
    subst hwr'
    by_cases hlt : k < ln
    · have hd : decide ((k : Int) < (ln : Int)) = true := decide_eq_true (by omega)
      have hkl : k < ln := hlt
      by_cases ht8 : t ≤ 8000
      · have hd2 : decide ((t : Int) ≤ 8000) = true := decide_eq_true (by omega)
        obtain ⟨x, hx⟩ : ∃ x, xs[k]? = some x := ⟨xs[k]'(by rw [HLEN.out]; exact hlt), List.getElem?_eq_getElem _⟩
        obtain ⟨b, off, hao, hcell, hrow⟩ := HL.out.row k x hx
        have hrl := hrow.len
        have hrm := hrow.reach
        dsimp only at hao
        subst hao
        have hw1 : IntKind.i64.wrap ((t : Int) + 10) = (t : Int) + 10 := by rw [IntKind.wrap_i64]; omega
        have hw2 : IntKind.i64.wrap ((t : Int) + 10 + (x.len : Int)) = (t : Int) + 10 + (x.len : Int) := by rw [IntKind.wrap_i64]; omega
        have hw3 : IntKind.i64.wrap ((k : Int) + 1) = (k : Int) + 1 := by rw [IntKind.wrap_i64]; omega
        have k0 : (0 : Int) ≤ (k : Int) := by omega
        have k1 : (k : Int) < (ln : Int) := by omega
        have HX := Lib.hid hx
        clear hx hrow hrl
        go_wp2_with fail
        refine ⟨⟨k + 1, t + 10 + x.len, by omega, by go_num, by go_num, ?_, by trivial⟩, by simp [intOf]; omega⟩
        show _ = _
        rw [totL_take _ _ _ HX.out, HT.out]
      · have hd2 : decide ((t : Int) ≤ 8000) = false := decide_eq_false (by omega)
        have hd3 : decide ((8000 : Int) < (t : Int)) = true := decide_eq_true (by omega)
        go_wp2_with (first | (go_at_call 12; refine (known_any S0).mono ?_; rintro e w8 ⟨rfl, S8⟩))
        go_ret
        exact ⟨rfl, S8.below⟩
    · have hd : decide ((k : Int) < (ln : Int)) = false := decide_eq_false (by omega)
      by_cases ht8 : t ≤ 8000
      case neg =>
        have hd3 : decide ((8000 : Int) < (t : Int)) = true := decide_eq_true (by omega)
        go_wp2_with (first | (go_at_call 12; refine (known_any S0).mono ?_; rintro e w8 ⟨rfl, S8⟩))
        go_ret
        exact ⟨rfl, S8.below⟩
      have hd3 : decide ((8000 : Int) < (t : Int)) = false := decide_eq_false (by omega)
      have hall : totL xs ≤ 8000 := by
        have := HT.out
        rw [List.take_of_length_le (by rw [HLEN.out]; omega)] at this
        omega
      have hl800 : ln ≤ 800 := by have := totL_len xs; rw [HLEN.out] at this; omega
      have HALL := Lib.hid hall
      clear hall
      go_wp2_with (first
        | (go_at_call 13; refine (new_any S0 id).mono ?_; rintro e w1 ⟨g, rfl, S1⟩)
        | (go_at_call 17; refine (r16new_any S1 id).mono ?_; rintro e w2 ⟨d, rfl, S2⟩))
      clear hd hd3 hlt hk ht8 HT
      go_loopw [9] (fun i w1 => ∃ (k : Nat) (s : LS), k ≤ ln ∧ i = .int .i64 k ∧ Hid (s.Ok (1 + 40 * (k : Int))) ∧ Sat w w1 (DL d s :: PL g s :: [])) (fun i _ => ln - (intOf i).toNat)
      case atStart => exact ⟨0, LS.new id, by omega, rfl, LS.new_ok HID.out, S2⟩
      case round =>
        clear S1 S2
        obtain ⟨k, s, hk, rfl, HOK, S3⟩ := hrel
        by_cases hlt : k < ln
        · have hd : decide ((k : Int) < (ln : Int)) = true := decide_eq_true (by omega)
          obtain ⟨x, hx⟩ : ∃ x, xs[k]? = some x := ⟨xs[k]'(by rw [HLEN.out]; exact hlt), List.getElem?_eq_getElem _⟩
          obtain ⟨b, off, hao, hcell, hrow⟩ := HL.out.row k x hx
          have hx8 := totL_mem hx
          have hx9 := HALL.out
          dsimp only at hao
          subst hao
          have hcell2 : ∀ w', Below w.heap.size w w' → w'.cell? ⟨b, off + k, none⟩ = some (.slice x.ao x.len x.cap) := fun w' hb => by
            rw [← hcell]; exact World.cell?_of_block (hb.block b (World.block_lt_of_cell? w _ hcell))
          have hc0 := hcell2 _ S3.below
          have HCE := Lib.hid hcell2
          have HROW := Lib.hid hrow
          have hw3 : IntKind.i64.wrap ((k : Int) + 1) = (k : Int) + 1 := by rw [IntKind.wrap_i64]; omega
          have k0 : (0 : Int) ≤ (k : Int) := by omega
          have k1 : (k : Int) < (ln : Int) := by omega
          have hRD := fun (L : List Asn) (w' : World) (h : Sat w w' L) => hrow.rd.below h.below
          have HHA := Lib.hid (fun (w' : World) (h : Sat w w' (PL g s :: DL d s :: [])) => hear_any h HOK.out (by omega) (fun w' h => hRD _ _ h) hrow.len hrow.bytes hrow.le (by omega))
          have HHD := Lib.hid (fun (w' : World) (L : List Asn) (h : Sat w w' (DL d s :: L)) => r16hear_any h HOK.out (by omega) (fun w' h => hRD _ _ h) hrow.len hrow.bytes hrow.le hrow.top (by omega))
          have HB1 := Lib.hid (hear_rows_len (s := s) (b := x.xs))
          have HB2 := Lib.hid (small_len (HOK.out.hearOut (by omega) x.xs))
          have hok2 := HOK.out.hear x.xs
          have HOK2 := Lib.hid hok2
          generalize hearP s x.xs = R at HHA HHD HB1 HB2 HOK2
          obtain ⟨rw1, ou1, s2⟩ := R
          dsimp only at HB1 HB2 HOK2
          clear hx hcell hcell2 hrow hRD hx8 hx9 hok2
          go_wp2_with (first
            | (go_at_call 15; refine (HHA.out _ S3.swap).mono ?_; unfold HeardP; dsimp only; rintro e w4 ⟨ra, rc, oa, oc, rfl, S4⟩; have hc4 := HCE.out _ S4.below)
            | (go_at_call 18; refine (HHD.out _ _ (S4.sel [3])).mono ?_; unfold HeardD; dsimp only; rintro e w5 ⟨ra5, rc5, oa5, oc5, rfl, S5⟩)
            | (go_at_call 19; refine (rows_any (brs_rows (S6.sel [4])).1 (brs_rows (S6.sel [1])).1 (brs_rows (S6.sel [1])).2.1 HB2.out (brs_rows (S6.sel [1])).2.2).mono ?_; rintro e w7 ⟨rfl, nq7, hq⟩; have S7 : Sat w w7 _ := hq ▸ S6.drewN nq7; clear hq)
            | (go_at_call 19; refine (rows_any (brs_rows (S5.sel [3])).1 (brs_rows S5).1 (brs_rows S5).2.1 HB1.out (brs_rows S5).2.2).mono ?_; rintro e w6 ⟨rfl, nq6, hq⟩; have S6 : Sat w w6 _ := hq ▸ S5.drewN nq6; clear hq))
          refine ⟨⟨k + 1, s2, by omega, by go_num, HOK2.out.mono (by omega), ?_⟩, by simp [intOf]; omega⟩
          exact Sat.two (S7.sel [2, 4])
        · have hd : decide ((k : Int) < (ln : Int)) = false := decide_eq_false (by omega)
          obtain rfl : k = ln := by omega
          obtain ⟨da, dc, S4⟩ := DL_open.1 S3
          have hvv : (s.vain == s.vain) = true := by simp
          go_wp2_with (first
            | (go_at_call 20; refine (stats_any (S4.sel [2])).mono ?_; rintro e w7 ⟨rfl, S7⟩; dsimp only; have c7 := S7.cell 1 rfl 7; simp only [List.getElem?_cons_zero, List.getElem?_cons_succ] at c7)
            | (go_at_call 12; refine (known_any S7).mono ?_; rintro e w9 ⟨rfl, S9⟩))
          go_ret
          exact ⟨rfl, S9.below⟩
end Go.Proofs.Ytdgalljalcediaa
