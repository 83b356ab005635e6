/-
  The law WireApart, walked.
-/
import Derived.Test.YtlkmnbnphgfppaaWiJ
namespace Go.Proofs.Ytlkmnbnphgfppaa
open Go.RowKit Go.Sep Go.Oct
set_option linter.unusedSimpArgs false

set_option maxRecDepth 100000 in
set_option maxHeartbeats 6400000 in
theorem WireApart_walk {w : World} {k s : Int} (hs : I64 s) {na da : Option Addr} {nl nc dl dc : Nat} {n d : List Int}
    (hn : Rd w na (nv n)) (ln : n.length = nl) (n64 : I64s n) (nx : nl ≤ nc) (nm : nc ≤ maxLen)
    (hd : Rd w da (bv d)) (ld : d.length = dl) (d8 : Bytes d) (dx : dl ≤ dc) (dm : dc ≤ maxLen) :
    Calls Try.prog 8 #[.int .i64 k, .int .i64 s, .slice na nl nc, .slice da dl dc] w fun e w' => e = .returned (.bool true) ∧ Below w.heap.size w w' := by
  have S0 := Sat.start w
  have HRN := Lib.hid (fun (L : List Asn) (w' : World) (h : Sat w w' L) => hn.below h.below)
  have HRD := Lib.hid (fun (L : List Asn) (w' : World) (h : Sat w w' L) => hd.below h.below)
  by_cases b1 : 80 < nl
  · have b1' : decide ((80 : Int) < (nl : Int)) = true := decide_eq_true (by omega)
    go_enter Try.func8, Try.ntmps8
    go_wp2_with fail
    go_ret
    exact ⟨rfl, S0.below⟩
  have b1' : decide ((80 : Int) < (nl : Int)) = false := decide_eq_false (by omega)
  by_cases b2 : 6000 < dl
  · have b2' : decide ((6000 : Int) < (dl : Int)) = true := decide_eq_true (by omega)
    go_enter Try.func8, Try.ntmps8
    go_wp2_with fail
    go_ret
    exact ⟨rfl, S0.below⟩
  have b2' : decide ((6000 : Int) < (dl : Int)) = false := decide_eq_false (by omega)
  have HE1 := Lib.hid (fun (L : List Asn) (w' : World) (h : Sat w w' L) => wEncode_any h (kind := k) hs (c := nc) (fun w'' h' => HRN.out _ _ h') ln n64 (d := dc) (fun w'' h' => HRD.out _ _ h') ld d8 (Nat.le_trans nx nm) (Nat.le_trans dx dm))
  have HE2 := Lib.hid (fun (L : List Asn) (w' : World) (h : Sat w w' L) => wEncodeReply_any h (kind := k) hs (c := nc) (fun w'' h' => HRN.out _ _ h') ln n64 (d := dc) (fun w'' h' => HRD.out _ _ h') ld d8 (Nat.le_trans nx nm) (Nat.le_trans dx dm))
  have hxl := say_length 81 k 1 20 s n d 4096
  have hyl := say_length 82 k 0 100 s n d 32768
  have hxb := say_bytes (mark := 81) (kind := k) (least := 1) (top := 20) (seq := s) (most := 4096) (by omega) (by omega) (by omega) n64 d8 (by omega)
  have hyb := say_bytes (mark := 82) (kind := k) (least := 0) (top := 100) (seq := s) (most := 32768) (by omega) (by omega) (by omega) n64 d8 (by omega)
  have ht1 := Lib.hid (fun h => take_other (mark := 81) (kind := k) (least := 1) (top := 20) (seq := s) (data := d) (most := 4096) (by omega) n64 h (mark2 := 82) (least2 := 0) (top2 := 100) (most2 := 32768) (by omega))
  have ht2 := Lib.hid (fun h => take_other (mark := 82) (kind := k) (least := 0) (top := 100) (seq := s) (data := d) (most := 32768) (by omega) n64 h (mark2 := 81) (least2 := 1) (top2 := 20) (most2 := 4096) (by omega))
  clear hn hd ln ld n64 d8 hs b1 b2
  generalize sayP 81 k 1 20 s n d 4096 = X at HE1 hxl hxb ht1
  generalize sayP 82 k 0 100 s n d 32768 = Y at HE2 hyl hyb ht2
  obtain ⟨x, ex⟩ := X
  obtain ⟨y, ey⟩ := Y
  simp only at hxl hyl hxb hyb ht1 ht2
  have HD1 := Lib.hid (fun (a : Option Addr) (c : Nat) (L : List Asn) (w' : World) (h : Sat w w' (sbs a x.length c x :: L)) => wDecodeReply_any h (fun w'' h' => h'.own_rd) rfl hxb (sbs_rd h).2.2.1 (by omega))
  have HD2 := Lib.hid (fun (a : Option Addr) (c : Nat) (L : List Asn) (w' : World) (h : Sat w w' (sbs a y.length c y :: L)) => wDecode_any h (fun w'' h' => h'.own_rd) rfl hyb (sbs_rd h).2.2.1 (by omega))
  clear hxb hyb
  by_cases q : ex = 0
  case neg =>
    have q' : (ex == 0) = false := by simpa using q
    clear q ht1
    by_cases r : ey = 0
    case neg =>
      have r' : (ey == 0) = false := by simpa using r
      clear r ht2
      go_enter Try.func8, Try.ntmps8
      go_wp2_with (first
      | (go_at_call 9; refine (HE1.out _ _ S0).mono ?_; unfold Encoded; rintro e2 w2 ⟨xa, xc, rfl, S2⟩; dsimp only at S2)
      | (go_at_call 18; refine (HE2.out _ _ S2).mono ?_; unfold Encoded; rintro e3 w3 ⟨ya, yc, rfl, S3⟩; dsimp only at S3)
      | (go_at_call 10; refine (known_any S3).mono ?_; rintro e10 w10 ⟨rfl, S10⟩))
      go_ret
      exact ⟨rfl, S10.below⟩
    subst r
    have HT2 := Lib.hid (ht2.out rfl)
    clear ht2
    go_enter Try.func8, Try.ntmps8
    go_wp2_with (first
      | (go_at_call 9; refine (HE1.out _ _ S0).mono ?_; unfold Encoded; rintro e2 w2 ⟨xa, xc, rfl, S2⟩; dsimp only at S2)
      | (go_at_call 18; refine (HE2.out _ _ S2).mono ?_; unfold Encoded; rintro e3 w3 ⟨ya, yc, rfl, S3⟩; dsimp only at S3)
      | (go_at_call 16; refine (HD2.out _ _ _ _ (S3.sel [])).mono ?_; unfold DecQ; rw [HT2.out]; rintro e7 w7 ⟨rn2, rnc2, rd2, rdc2, rfl, S7⟩; (dsimp only at S7; have S8 := S7.alloc [.int .i64 0, .int .i64 0, .slice none 0 0, .slice none 0 0] 28))
      | (refine wpList_store_sat (off := 0) (n := 4) rfl 28 _ _ rfl S8 rfl rfl rfl (by simp) Try.sizeQ (by simp [Value.oneCell']) ?_; intro w9 S9; rw [zstore4 (by rfl)] at S9; have q2 := S9.cell 0 rfl 2; have q3 := S9.cell 0 rfl 3; simp only [List.getElem?_cons_zero, List.getElem?_cons_succ, List.length_nil] at q2 q3)
      | (go_at_call 10; refine (known_any S9).mono ?_; rintro e10 w10 ⟨rfl, S10⟩))
    go_ret
    exact ⟨rfl, S10.below⟩
  subst q
  have HT1 := Lib.hid (ht1.out rfl)
  clear ht1
  by_cases r : ey = 0
  case neg =>
    have r' : (ey == 0) = false := by simpa using r
    clear r ht2
    go_enter Try.func8, Try.ntmps8
    go_wp2_with (first
      | (go_at_call 9; refine (HE1.out _ _ S0).mono ?_; unfold Encoded; rintro e2 w2 ⟨xa, xc, rfl, S2⟩; dsimp only at S2)
      | (go_at_call 18; refine (HE2.out _ _ S2).mono ?_; unfold Encoded; rintro e3 w3 ⟨ya, yc, rfl, S3⟩; dsimp only at S3)
      | (go_at_call 20; refine (HD1.out _ _ _ _ (S3.sel [1])).mono ?_; unfold DecR; rw [HT1.out]; rintro e4 w4 ⟨rn, rnc, rd, rdc, rfl, S4⟩; (dsimp only at S4; have S5 := S4.alloc [.int .i64 0, .int .i64 0, .slice none 0 0, .slice none 0 0] 46))
      | (refine wpList_store_sat (off := 0) (n := 4) rfl 46 _ _ rfl S5 rfl rfl rfl (by simp) Try.sizeP (by simp [Value.oneCell']) ?_; intro w6 S6; rw [zstore4 (by rfl)] at S6; have p2 := S6.cell 0 rfl 2; have p3 := S6.cell 0 rfl 3; simp only [List.getElem?_cons_zero, List.getElem?_cons_succ, List.length_nil] at p2 p3)
      | (go_at_call 10; refine (known_any S6).mono ?_; rintro e10 w10 ⟨rfl, S10⟩))
    go_ret
    exact ⟨rfl, S10.below⟩
  subst r
  have HT2 := Lib.hid (ht2.out rfl)
  clear ht2
  go_enter Try.func8, Try.ntmps8
  go_wp2_with (first
      | (go_at_call 9; refine (HE1.out _ _ S0).mono ?_; unfold Encoded; rintro e2 w2 ⟨xa, xc, rfl, S2⟩; dsimp only at S2)
      | (go_at_call 18; refine (HE2.out _ _ S2).mono ?_; unfold Encoded; rintro e3 w3 ⟨ya, yc, rfl, S3⟩; dsimp only at S3)
      | (go_at_call 20; refine (HD1.out _ _ _ _ (S3.sel [1])).mono ?_; unfold DecR; rw [HT1.out]; rintro e4 w4 ⟨rn, rnc, rd, rdc, rfl, S4⟩; (dsimp only at S4; have S5 := S4.alloc [.int .i64 0, .int .i64 0, .slice none 0 0, .slice none 0 0] 46))
      | (refine wpList_store_sat (off := 0) (n := 4) rfl 46 _ _ rfl S5 rfl rfl rfl (by simp) Try.sizeP (by simp [Value.oneCell']) ?_; intro w6 S6; rw [zstore4 (by rfl)] at S6; have p2 := S6.cell 0 rfl 2; have p3 := S6.cell 0 rfl 3; simp only [List.getElem?_cons_zero, List.getElem?_cons_succ, List.length_nil] at p2 p3)
      | (go_at_call 16; refine (HD2.out _ _ _ _ (S6.sel [4])).mono ?_; unfold DecQ; rw [HT2.out]; rintro e7 w7 ⟨rn2, rnc2, rd2, rdc2, rfl, S7⟩; (dsimp only at S7; have S8 := S7.alloc [.int .i64 0, .int .i64 0, .slice none 0 0, .slice none 0 0] 28))
      | (refine wpList_store_sat (off := 0) (n := 4) rfl 28 _ _ rfl S8 rfl rfl rfl (by simp) Try.sizeQ (by simp [Value.oneCell']) ?_; intro w9 S9; rw [zstore4 (by rfl)] at S9; have q2 := S9.cell 0 rfl 2; have q3 := S9.cell 0 rfl 3; simp only [List.getElem?_cons_zero, List.getElem?_cons_succ, List.length_nil] at q2 q3)
      | (go_at_call 10; refine (known_any S9).mono ?_; rintro e10 w10 ⟨rfl, S10⟩))
  go_ret
  exact ⟨rfl, S10.below⟩
end Go.Proofs.Ytlkmnbnphgfppaa
