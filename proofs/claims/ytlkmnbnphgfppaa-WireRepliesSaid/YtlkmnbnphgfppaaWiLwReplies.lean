/-
  The law WireReplies, walked.
-/
import Derived.Test.YtlkmnbnphgfppaaWiJ
namespace Go.Proofs.Ytlkmnbnphgfppaa
open Go.RowKit Go.Sep Go.Oct
set_option linter.unusedSimpArgs false

set_option maxRecDepth 100000 in
set_option maxHeartbeats 6400000 in
theorem WireReplies_walk {w : World} {k s : Int} (hs : I64 s) {na da : Option Addr} {nl nc dl dc : Nat} {n d : List Int}
    (hn : Rd w na (nv n)) (ln : n.length = nl) (n64 : I64s n) (nx : nl ≤ nc) (nm : nc ≤ maxLen)
    (hd : Rd w da (bv d)) (ld : d.length = dl) (d8 : Bytes d) (dx : dl ≤ dc) (dm : dc ≤ maxLen) :
    Calls Try.prog 6 #[.int .i64 k, .int .i64 s, .slice na nl nc, .slice da dl dc] w fun e w' => e = .returned (.bool true) ∧ Below w.heap.size w w' := by
  have S0 := Sat.start w
  have HRN := Lib.hid (fun (L : List Asn) (w' : World) (h : Sat w w' L) => hn.below h.below)
  have HRD := Lib.hid (fun (L : List Asn) (w' : World) (h : Sat w w' L) => hd.below h.below)
  have LN := Lib.hid ln
  have LD := Lib.hid ld
  by_cases b1 : 200 < nl
  · have b1' : decide ((200 : Int) < (nl : Int)) = true := decide_eq_true (by omega)
    go_enter Try.func6, Try.ntmps6
    go_wp2_with fail
    go_ret
    exact ⟨rfl, S0.below⟩
  have b1' : decide ((200 : Int) < (nl : Int)) = false := decide_eq_false (by omega)
  by_cases b2 : 36000 < dl
  · have b2' : decide ((36000 : Int) < (dl : Int)) = true := decide_eq_true (by omega)
    go_enter Try.func6, Try.ntmps6
    go_wp2_with fail
    go_ret
    exact ⟨rfl, S0.below⟩
  have b2' : decide ((36000 : Int) < (dl : Int)) = false := decide_eq_false (by omega)
  have hdl : dl ≤ 36000 := by omega
  have hnl : nl ≤ 200 := by omega
  have HENC := Lib.hid (fun (ad : Addr) (cp : Nat) (L : List Asn) (w' : World) (h : Sat w w' (sbs (some ad) (dl + 1) cp (d ++ [171]) :: L)) => wEncodeReply_any h (kind := k) hs (c := nc) (fun w'' h' => HRN.out _ _ h') ln n64 (d := cp) (fun w'' h' => rd_prefix h'.own_rd) ld d8 (Nat.le_trans nx nm) (Nat.le_trans dx dm))
  have HENC24 := Lib.hid (fun (L : List Asn) (w' : World) (h : Sat w w' L) => r24EncodeReply_any h (kind := k) hs (c := nc) (fun w'' h' => HRN.out _ _ h') ln n64 (d := dc) (fun w'' h' => HRD.out _ _ h') ld d8 (Nat.le_trans nx nm) (Nat.le_trans dx dm))
  have hyl := say_length 82 k 0 100 s n d 32768
  have hyb := say_bytes (mark := 82) (kind := k) (least := 0) (top := 100) (seq := s) (most := 32768) (by omega) (by omega) (by omega) n64 d8 (by omega)
  have htk := Lib.hid (fun h => take_say (mark := 82) (kind := k) (least := 0) (top := 100) (seq := s) (data := d) (most := 32768) (by omega) n64 h)
  clear hn hd ln ld n64 d8 hs b1 b2
  generalize sayP 82 k 0 100 s n d 32768 = Y at HENC HENC24 hyl hyb htk
  obtain ⟨y, ey⟩ := Y
  simp only at hyl hyb htk
  have HDEC := Lib.hid (fun (a : Option Addr) (c : Nat) (L : List Asn) (w' : World) (h : Sat w w' (sbs a y.length c y :: L)) => wDecodeReply_any h (fun w'' h' => h'.own_rd) rfl hyb (sbs_rd h).2.2.1 (by omega))
  clear hyb
  by_cases q : ey = 0
  case neg =>
    have q' : (ey != 0) = true := by simpa using q
    have q2 : (ey != ey) = false := by simp
    clear q htk
    go_enter Try.func6, Try.ntmps6
    go_wp2_with (first
      | (go_at_call 13; refine (roomy_any S0 (fun w' h => HRD.out _ _ h) LD.out (by omega)).mono ?_; rintro e w1 ⟨ad, cp, rfl, S1⟩; (have hcp := (sbs_rd S1).2.2.1; have S2 := S1.alloc [.int .i64 0, .int .i64 0, .slice none 0 0, .slice none 0 0] 43))
      | (refine wpList_store_sat (off := 0) (n := 4) rfl 43 _ _ rfl S2 rfl rfl rfl (by simp) Try.sizeP24 (by simp [Value.oneCell']) ?_; intro w3 S3; rw [zstore4 (by rfl)] at S3)
      | (go_at_call 18; refine (HENC.out _ _ _ _ S3.swap).mono ?_; unfold Encoded; rintro e w4 ⟨ya, yc, rfl, S4⟩; dsimp only at S4)
      | (refine wpList_load_part rfl 43 _ rfl (n := 4) rfl (Sat.whole (S4.sel [2]) 4) rfl Try.underlying43 rfl Try.sizeP24 ?_)
      | (go_at_call 19; refine (HENC24.out _ _ S4).mono ?_; unfold Encoded; rintro e w5 ⟨za, zc, rfl, S5⟩; dsimp only at S5)
      | (go_at_call 11; refine (same_any S5.tail.own_rd S5.own_rd rfl rfl (by omega) (by omega)).mono ?_; rw [decide_eq_true (rfl : y = y)]; rintro e w6 ⟨rfl, nq, hw⟩; have S6 : Sat w w6 _ := hw ▸ S5.drewN nq; clear hw)
      | (go_at_call 15; refine (stands_any (S6.sel [2]).own_rd (HRD.out _ _ S6) (by rw [LD.out]) LD.out hcp (by omega)).mono ?_; rintro e w7 ⟨rfl, nq2, hw⟩; have S7 : Sat w w7 _ := hw ▸ S6.drewN nq2; clear hw)
      | (go_at_call 10; refine (known_any S7).mono ?_; rintro e w8 ⟨rfl, S8⟩))
    go_ret
    exact ⟨rfl, S8.below⟩
  subst q
  have HTK := Lib.hid (htk.out rfl)
  clear htk
  go_enter Try.func6, Try.ntmps6
  go_wp2_with (first
      | (go_at_call 13; refine (roomy_any S0 (fun w' h => HRD.out _ _ h) LD.out (by omega)).mono ?_; rintro e w1 ⟨ad, cp, rfl, S1⟩; (have hcp := (sbs_rd S1).2.2.1; have S2 := S1.alloc [.int .i64 0, .int .i64 0, .slice none 0 0, .slice none 0 0] 43))
      | (refine wpList_store_sat (off := 0) (n := 4) rfl 43 _ _ rfl S2 rfl rfl rfl (by simp) Try.sizeP24 (by simp [Value.oneCell']) ?_; intro w3 S3; rw [zstore4 (by rfl)] at S3)
      | (go_at_call 18; refine (HENC.out _ _ _ _ S3.swap).mono ?_; unfold Encoded; rintro e w4 ⟨ya, yc, rfl, S4⟩; dsimp only at S4)
      | (refine wpList_load_part rfl 43 _ rfl (n := 4) rfl (Sat.whole (S4.sel [2]) 4) rfl Try.underlying43 rfl Try.sizeP24 ?_)
      | (go_at_call 19; refine (HENC24.out _ _ S4).mono ?_; unfold Encoded; rintro e w5 ⟨za, zc, rfl, S5⟩; dsimp only at S5)
      | (go_at_call 11; refine (same_any S5.tail.own_rd S5.own_rd rfl rfl (by omega) (by omega)).mono ?_; rw [decide_eq_true (rfl : y = y)]; rintro e w6 ⟨rfl, nq, hw⟩; have S6 : Sat w w6 _ := hw ▸ S5.drewN nq; clear hw)
      | (go_at_call 15; refine (stands_any (S6.sel [2]).own_rd (HRD.out _ _ S6) (by rw [LD.out]) LD.out hcp (by omega)).mono ?_; rintro e w7 ⟨rfl, nq2, hw⟩; have S7 : Sat w w7 _ := hw ▸ S6.drewN nq2; clear hw)
      | (go_at_call 20; refine (HDEC.out _ _ _ _ (S7.sel [1])).mono ?_; unfold DecR; rw [HTK.out]; rintro e w8 ⟨rn, rnc, rd, rdc, rfl, S8⟩; (dsimp only at S8; have S9 := S8.alloc [.int .i64 0, .int .i64 0, .slice none 0 0, .slice none 0 0] 46))
      | (refine wpList_store_sat (off := 0) (n := 4) rfl 46 _ _ rfl S9 rfl rfl rfl (by simp) Try.sizeP (by simp [Value.oneCell']) ?_; intro w10 S10; rw [zstore4 (by rfl)] at S10)
      | (refine wpList_load_guard (by rfl) 46 _ rfl (n := 4) rfl (Sat.whole S10 4) rfl Try.underlying46 rfl Try.sizeP ?_)
      | (refine wpList_load_guard (by rfl) 43 _ rfl (n := 4) rfl (Sat.whole (S10.sel [6]) 4) rfl Try.underlying43 rfl Try.sizeP24 ?_)
      | (go_at_call 21; refine (replies_any S10 (fun w' h => (h.sel [1]).own_rd) rfl (fun w' h => (h.sel [2]).own_rd) rfl (fun w' h => HRN.out _ _ h) LN.out (fun w' h => HRD.out _ _ h) LD.out (by rw [LN.out]; omega) (by rw [LD.out]; omega) (by omega) (by omega)).mono ?_; rw [decide_eq_true (⟨rfl, rfl, rfl, rfl⟩ : k = k ∧ s = s ∧ n = n ∧ d = d)]; rintro e w11 ⟨rfl, S11⟩)
      | (go_at_call 10; refine (known_any S11).mono ?_; rintro e w12 ⟨rfl, S12⟩))
  go_ret
  exact ⟨rfl, S12.below⟩
end Go.Proofs.Ytlkmnbnphgfppaa
