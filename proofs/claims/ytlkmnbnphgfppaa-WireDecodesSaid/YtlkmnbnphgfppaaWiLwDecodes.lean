/-
  The law WireDecodes, walked.
-/
import Derived.Test.YtlkmnbnphgfppaaWiJ
namespace Go.Oct
open Go.RowKit
theorem take_lens (mark least top : Int) (most : Nat) (b : List Int) : (takeP mark least top most b).2.2.1.length ≤ 80 ∧ (takeP mark least top most b).2.2.2.1.length ≤ most := by
  unfold takeP
  split
  · exact ⟨Nat.zero_le _, Nat.zero_le _⟩
  · simp only
    split
    · exact ⟨Nat.zero_le _, Nat.zero_le _⟩
    · split
      · exact ⟨Nat.zero_le _, Nat.zero_le _⟩
      · rename_i hh
        have hmy : maySay (partsOf (openF b).1).kind least top (partsOf (openF b).1).seq (partsOf (openF b).1).nums.length (partsOf (openF b).1).data.length most = 0 := Classical.byContradiction fun x => hh (Or.inr (Or.inr x))
        exact ⟨(may_ok hmy).2.2.2.1, (may_ok hmy).2.2.2.2⟩
theorem take_facts {mark least top : Int} {most : Nat} {b : List Int} (hB : Bytes b) (h : (takeP mark least top most b).2.2.2.2 = 0) :
    I64 (takeP mark least top most b).2.1 ∧ I64s (takeP mark least top most b).2.2.1 ∧ Bytes (takeP mark least top most b).2.2.2.1 := by
  unfold takeP at h ⊢
  by_cases ho : (openF b).2 = 0
  case neg => rw [if_pos ho] at h; exact absurd h ho
  rw [if_neg (by simp [ho])] at h ⊢
  simp only at h ⊢
  by_cases hm : (partsOf (openF b).1).many < 0 ∨ 80 < (partsOf (openF b).1).many
  · rw [if_pos hm] at h; exact absurd h (by decide)
  rw [if_neg hm] at h ⊢
  split at h
  · exact absurd h (by decide)
  rename_i hh
  rw [if_neg hh]
  simp only
  obtain ⟨hb, hl⟩ := openF_back hB ho
  have hBp : Bytes (openF b).1 := by
    intro x hx
    have : x ∈ b := by
      rw [hb]
      unfold recP
      rw [List.append_assoc]
      exact List.mem_append_right _ (List.mem_append_left _ hx)
    exact hB x this
  have hf : (partsOf (openF b).1).fin = 0 := Classical.byContradiction fun x => hh (Or.inl x)
  obtain ⟨_, h1, h2, _, _, h3⟩ := parts_back hBp hf (by omega)
  exact ⟨h1, h2, h3⟩
end Go.Oct
namespace Go.Proofs.Ytlkmnbnphgfppaa
open Go.RowKit Go.Sep Go.Oct
set_option linter.unusedSimpArgs false

set_option maxRecDepth 100000 in
set_option maxHeartbeats 12800000 in
theorem WireDecodes_walk {w : World} {ba : Option Addr} {bl bc : Nat} {b : List Int}
    (hb : Rd w ba (bv b)) (lb : b.length = bl) (b8 : Bytes b) (bx : bl ≤ bc) (bm : bc ≤ maxLen) :
    Calls Try.prog 7 #[.slice ba bl bc] w fun e w' => e = .returned (.bool true) ∧ Below w.heap.size w w' := by
  have S0 := Sat.start w
  have HRB := Lib.hid (fun (L : List Asn) (w' : World) (h : Sat w w' L) => hb.below h.below)
  have LB := Lib.hid lb
  by_cases b1 : 6000 < bl
  · have b1' : decide ((6000 : Int) < (bl : Int)) = true := decide_eq_true (by omega)
    go_enter Try.func7, Try.ntmps7
    go_wp2_with fail
    go_ret
    exact ⟨rfl, S0.below⟩
  have b1' : decide ((6000 : Int) < (bl : Int)) = false := decide_eq_false (by omega)
  have HDA := Lib.hid (fun (c : Nat) (a : Option Addr) (w' : World) (L : List Asn) (h : Sat w w' L) (hc : bl ≤ c) (hR : ∀ w', Sat w w' L → Rd w' a (bv b)) => wDecode_any h (c := c) hR lb b8 hc (by omega))
  have HDB := Lib.hid (fun (w' : World) (L : List Asn) (h : Sat w w' L) => r24Decode_any h (fun w'' h' => HRB.out _ _ h') lb b8 bx bm (by omega))
  have HDC := Lib.hid (fun (c : Nat) (a : Option Addr) (w' : World) (L : List Asn) (h : Sat w w' L) (hc : bl ≤ c) (hR : ∀ w', Sat w w' L → Rd w' a (bv b)) => wDecodeReply_any h (c := c) hR lb b8 hc (by omega))
  have HDD := Lib.hid (fun (w' : World) (L : List Asn) (h : Sat w w' L) => r24DecodeReply_any h (fun w'' h' => HRB.out _ _ h') lb b8 bx bm (by omega))
  have HCP : Hid (∀ cp : Nat, bl + 1 ≤ cp → (bl : Int) ≤ (cp : Int)) := fun cp h => by omega
  have HCN : Hid (∀ cp : Nat, bl + 1 ≤ cp → bl ≤ cp) := fun cp h => by omega
  have hbl : bl ≤ 6000 := by omega
  have l1 := take_lens 81 1 20 4096 b
  have l2 := take_lens 82 0 100 32768 b
  have fA := fun h => take_facts (mark := 81) (least := 1) (top := 20) (most := 4096) b8 h
  have fB := fun h => take_facts (mark := 82) (least := 0) (top := 100) (most := 32768) b8 h
  have sA := fun h => say_take (mark := 81) (least := 1) (top := 20) (most := 4096) b8 h
  have sB := fun h => say_take (mark := 82) (least := 0) (top := 100) (most := 32768) b8 h
  clear hb lb b8 b1
  generalize takeP 81 1 20 4096 b = R1 at HDA HDB l1 fA sA
  generalize takeP 82 0 100 32768 b = R2 at HDC HDD l2 fB sB
  obtain ⟨k, s, n, d, f⟩ := R1
  obtain ⟨k2, s2, n2, d2, f2⟩ := R2
  simp only at l1 l2 fA fB sA sB
  obtain ⟨l1a, l1b⟩ := l1
  obtain ⟨l2a, l2b⟩ := l2
  have ff : (f != f) = false := by simp
  have ff2 : (f2 != f2) = false := by simp
  by_cases q : f = 0
  case neg =>
    have q' : (f == 0) = false := by simpa using q
    clear fA sA q
    by_cases r : f2 = 0
    case neg =>
      have r' : (f2 == 0) = false := by simpa using r
      clear fB sB r
      go_enter Try.func7, Try.ntmps7
      go_wp2_with (first
      | (go_at_call 13; refine (roomy_any S0 (fun w' h => HRB.out _ _ h) LB.out (by omega)).mono ?_; rintro e1 w1 ⟨ad, cp, rfl, S1⟩; (have hcp := (sbs_rd S1).2.2.1; have hcp2 : (bl : Int) ≤ (cp : Int) := HCP.out _ hcp))
      | (go_at_call 16; refine (HDA.out _ _ _ _ S1 (HCN.out _ hcp) (fun w' h => rd_prefix h.own_rd)).mono ?_; unfold DecQ; rintro e2 w2 ⟨na2, nc2, da2, dc2, rfl, S2⟩; (dsimp only at S2; have A2 := S2.alloc [.int .i64 0, .int .i64 0, .slice none 0 0, .slice none 0 0] 28))
      | (refine wpList_store_sat (off := 0) (n := 4) rfl 28 _ _ rfl A2 rfl rfl rfl (by simp) Try.sizeQ (by simp [Value.oneCell']) ?_; intro w3 S3; rw [zstore4 (by rfl)] at S3)
      | (go_at_call 22; refine (HDB.out _ _ S3).mono ?_; unfold DecQ; rintro e4 w4 ⟨na4, nc4, da4, dc4, rfl, S4⟩; (dsimp only at S4; have A4 := S4.alloc [.int .i64 0, .int .i64 0, .slice none 0 0, .slice none 0 0] 34))
      | (refine wpList_store_sat (off := 0) (n := 4) rfl 34 _ _ rfl A4 rfl rfl rfl (by simp) Try.sizeQ24 (by simp [Value.oneCell']) ?_; intro w5 S5; rw [zstore4 (by rfl)] at S5)
      | (go_at_call 20; refine (HDC.out _ _ _ _ S5 (HCN.out _ hcp) (fun w' h => rd_prefix (h.sel [6]).own_rd)).mono ?_; unfold DecR; rintro e6 w6 ⟨na6, nc6, da6, dc6, rfl, S6⟩; (dsimp only at S6; have A6 := S6.alloc [.int .i64 0, .int .i64 0, .slice none 0 0, .slice none 0 0] 46))
      | (refine wpList_store_sat (off := 0) (n := 4) rfl 46 _ _ rfl A6 rfl rfl rfl (by simp) Try.sizeP (by simp [Value.oneCell']) ?_; intro w7 S7; rw [zstore4 (by rfl)] at S7)
      | (go_at_call 23; refine (HDD.out _ _ S7).mono ?_; unfold DecR; rintro e8 w8 ⟨na8, nc8, da8, dc8, rfl, S8⟩; (dsimp only at S8; have A8 := S8.alloc [.int .i64 0, .int .i64 0, .slice none 0 0, .slice none 0 0] 43))
      | (refine wpList_store_sat (off := 0) (n := 4) rfl 43 _ _ rfl A8 rfl rfl rfl (by simp) Try.sizeP24 (by simp [Value.oneCell']) ?_; intro w9 S9; rw [zstore4 (by rfl)] at S9)
      | (refine wpList_load_part rfl 34 _ rfl (n := 4) rfl (Sat.whole (S9.sel [6]) 4) rfl Try.underlying34 rfl Try.sizeQ24 ?_)
      | (go_at_call 17; refine (requests_any S9 (fun w' h => (h.sel [10]).own_rd) rfl (fun w' h => (h.sel [11]).own_rd) rfl (fun w' h => (h.sel [7]).own_rd) rfl (fun w' h => (h.sel [8]).own_rd) rfl (by omega) (by omega) (by omega) (by omega)).mono ?_; rw [decide_eq_true (⟨rfl, rfl, rfl, rfl⟩ : k = k ∧ s = s ∧ n = n ∧ d = d)]; rintro e10 w10 ⟨rfl, S10⟩)
      | (refine wpList_load_guard (by rfl) 46 _ rfl (n := 4) rfl (Sat.whole (S10.sel [3]) 4) rfl Try.underlying46 rfl Try.sizeP ?_)
      | (refine wpList_load_guard (by rfl) 43 _ rfl (n := 4) rfl (Sat.whole (S10.sel [0]) 4) rfl Try.underlying43 rfl Try.sizeP24 ?_)
      | (go_at_call 21; refine (replies_any S10 (fun w' h => (h.sel [4]).own_rd) rfl (fun w' h => (h.sel [5]).own_rd) rfl (fun w' h => (h.sel [1]).own_rd) rfl (fun w' h => (h.sel [2]).own_rd) rfl (by omega) (by omega) (by omega) (by omega)).mono ?_; rw [decide_eq_true (⟨rfl, rfl, rfl, rfl⟩ : k2 = k2 ∧ s2 = s2 ∧ n2 = n2 ∧ d2 = d2)]; rintro e11 w11 ⟨rfl, S11⟩)
      | (go_at_call 15; refine (stands_any (S11.sel [12]).own_rd (HRB.out _ _ S11) (by rw [LB.out]) LB.out hcp (by omega)).mono ?_; rintro e12 w12 ⟨rfl, nq2, hw⟩; have S12 : Sat w w12 _ := hw ▸ S11.drewN nq2; clear hw)
      | (refine wpList_load_part rfl 28 _ rfl (n := 4) rfl (Sat.whole (S9.sel [9]) 4) rfl Try.underlying28 rfl Try.sizeQ ?_)
      | (go_at_call 10; refine (known_any S12).mono ?_; rintro e20 w20 ⟨rfl, S20⟩))
      go_ret
      exact ⟨rfl, S20.below⟩
    subst r
    have HEB := Lib.hid (fun (w' : World) (L : List Asn) (h : Sat w w' L) {na da : Option Addr} {nc dc : Nat} (hn : ∀ w', Sat w w' L → Rd w' na (nv n2)) (hd : ∀ w', Sat w w' L → Rd w' da (bv d2)) => wEncodeReply_any h (kind := k2) (fB rfl).1 (c := nc) hn rfl (fB rfl).2.1 (d := dc) hd rfl (fB rfl).2.2 (by unfold maxLen; omega) (by unfold maxLen; omega))
    have HSB := Lib.hid (sB rfl)
    clear fB sB
    go_enter Try.func7, Try.ntmps7
    go_wp2_with (first
      | (refine wpList_load_part rfl 46 _ rfl (n := 4) rfl (Sat.whole (S12.sel [3]) 4) rfl Try.underlying46 rfl Try.sizeP ?_)
      | (go_at_call 18; refine (HEB.out _ _ S12 (fun w' h => (h.sel [4]).own_rd) (fun w' h => (h.sel [5]).own_rd)).mono ?_; unfold Encoded; rw [HSB.out]; rintro e15 w15 ⟨ya, yc, rfl, S15⟩; dsimp only at S15)
      | (go_at_call 11; refine (same_any S15.own_rd (HRB.out _ _ S15) rfl LB.out (by rw [LB.out]; omega) (by omega)).mono ?_; rw [decide_eq_true (rfl : b = b)]; rintro e16 w16 ⟨rfl, nq4, hw⟩; have S16 : Sat w w16 _ := hw ▸ S15.drewN nq4; clear hw)
      | (go_at_call 13; refine (roomy_any S0 (fun w' h => HRB.out _ _ h) LB.out (by omega)).mono ?_; rintro e1 w1 ⟨ad, cp, rfl, S1⟩; (have hcp := (sbs_rd S1).2.2.1; have hcp2 : (bl : Int) ≤ (cp : Int) := HCP.out _ hcp))
      | (go_at_call 16; refine (HDA.out _ _ _ _ S1 (HCN.out _ hcp) (fun w' h => rd_prefix h.own_rd)).mono ?_; unfold DecQ; rintro e2 w2 ⟨na2, nc2, da2, dc2, rfl, S2⟩; (dsimp only at S2; have A2 := S2.alloc [.int .i64 0, .int .i64 0, .slice none 0 0, .slice none 0 0] 28))
      | (refine wpList_store_sat (off := 0) (n := 4) rfl 28 _ _ rfl A2 rfl rfl rfl (by simp) Try.sizeQ (by simp [Value.oneCell']) ?_; intro w3 S3; rw [zstore4 (by rfl)] at S3)
      | (go_at_call 22; refine (HDB.out _ _ S3).mono ?_; unfold DecQ; rintro e4 w4 ⟨na4, nc4, da4, dc4, rfl, S4⟩; (dsimp only at S4; have A4 := S4.alloc [.int .i64 0, .int .i64 0, .slice none 0 0, .slice none 0 0] 34))
      | (refine wpList_store_sat (off := 0) (n := 4) rfl 34 _ _ rfl A4 rfl rfl rfl (by simp) Try.sizeQ24 (by simp [Value.oneCell']) ?_; intro w5 S5; rw [zstore4 (by rfl)] at S5)
      | (go_at_call 20; refine (HDC.out _ _ _ _ S5 (HCN.out _ hcp) (fun w' h => rd_prefix (h.sel [6]).own_rd)).mono ?_; unfold DecR; rintro e6 w6 ⟨na6, nc6, da6, dc6, rfl, S6⟩; (dsimp only at S6; have A6 := S6.alloc [.int .i64 0, .int .i64 0, .slice none 0 0, .slice none 0 0] 46))
      | (refine wpList_store_sat (off := 0) (n := 4) rfl 46 _ _ rfl A6 rfl rfl rfl (by simp) Try.sizeP (by simp [Value.oneCell']) ?_; intro w7 S7; rw [zstore4 (by rfl)] at S7)
      | (go_at_call 23; refine (HDD.out _ _ S7).mono ?_; unfold DecR; rintro e8 w8 ⟨na8, nc8, da8, dc8, rfl, S8⟩; (dsimp only at S8; have A8 := S8.alloc [.int .i64 0, .int .i64 0, .slice none 0 0, .slice none 0 0] 43))
      | (refine wpList_store_sat (off := 0) (n := 4) rfl 43 _ _ rfl A8 rfl rfl rfl (by simp) Try.sizeP24 (by simp [Value.oneCell']) ?_; intro w9 S9; rw [zstore4 (by rfl)] at S9)
      | (refine wpList_load_part rfl 34 _ rfl (n := 4) rfl (Sat.whole (S9.sel [6]) 4) rfl Try.underlying34 rfl Try.sizeQ24 ?_)
      | (go_at_call 17; refine (requests_any S9 (fun w' h => (h.sel [10]).own_rd) rfl (fun w' h => (h.sel [11]).own_rd) rfl (fun w' h => (h.sel [7]).own_rd) rfl (fun w' h => (h.sel [8]).own_rd) rfl (by omega) (by omega) (by omega) (by omega)).mono ?_; rw [decide_eq_true (⟨rfl, rfl, rfl, rfl⟩ : k = k ∧ s = s ∧ n = n ∧ d = d)]; rintro e10 w10 ⟨rfl, S10⟩)
      | (refine wpList_load_guard (by rfl) 46 _ rfl (n := 4) rfl (Sat.whole (S10.sel [3]) 4) rfl Try.underlying46 rfl Try.sizeP ?_)
      | (refine wpList_load_guard (by rfl) 43 _ rfl (n := 4) rfl (Sat.whole (S10.sel [0]) 4) rfl Try.underlying43 rfl Try.sizeP24 ?_)
      | (go_at_call 21; refine (replies_any S10 (fun w' h => (h.sel [4]).own_rd) rfl (fun w' h => (h.sel [5]).own_rd) rfl (fun w' h => (h.sel [1]).own_rd) rfl (fun w' h => (h.sel [2]).own_rd) rfl (by omega) (by omega) (by omega) (by omega)).mono ?_; rw [decide_eq_true (⟨rfl, rfl, rfl, rfl⟩ : k2 = k2 ∧ s2 = s2 ∧ n2 = n2 ∧ d2 = d2)]; rintro e11 w11 ⟨rfl, S11⟩)
      | (go_at_call 15; refine (stands_any (S11.sel [12]).own_rd (HRB.out _ _ S11) (by rw [LB.out]) LB.out hcp (by omega)).mono ?_; rintro e12 w12 ⟨rfl, nq2, hw⟩; have S12 : Sat w w12 _ := hw ▸ S11.drewN nq2; clear hw)
      | (refine wpList_load_part rfl 28 _ rfl (n := 4) rfl (Sat.whole (S9.sel [9]) 4) rfl Try.underlying28 rfl Try.sizeQ ?_)
      | (go_at_call 10; refine (known_any S16).mono ?_; rintro e20 w20 ⟨rfl, S20⟩))
    go_ret
    exact ⟨rfl, S20.below⟩
  subst q
  have HEA := Lib.hid (fun (w' : World) (L : List Asn) (h : Sat w w' L) {na da : Option Addr} {nc dc : Nat} (hn : ∀ w', Sat w w' L → Rd w' na (nv n)) (hd : ∀ w', Sat w w' L → Rd w' da (bv d)) => wEncode_any h (kind := k) (fA rfl).1 (c := nc) hn rfl (fA rfl).2.1 (d := dc) hd rfl (fA rfl).2.2 (by unfold maxLen; omega) (by unfold maxLen; omega))
  have HSA := Lib.hid (sA rfl)
  clear fA sA
  by_cases r : f2 = 0
  case neg =>
    have r' : (f2 == 0) = false := by simpa using r
    clear fB sB r
    go_enter Try.func7, Try.ntmps7
    go_wp2_with (first
      | (refine wpList_load_part rfl 28 _ rfl (n := 4) rfl (Sat.whole (S12.sel [9]) 4) rfl Try.underlying28 rfl Try.sizeQ ?_)
      | (go_at_call 9; refine (HEA.out _ _ S12 (fun w' h => (h.sel [10]).own_rd) (fun w' h => (h.sel [11]).own_rd)).mono ?_; unfold Encoded; rw [HSA.out]; rintro e13 w13 ⟨xa, xc, rfl, S13⟩; dsimp only at S13)
      | (go_at_call 11; refine (same_any S13.own_rd (HRB.out _ _ S13) rfl LB.out (by rw [LB.out]; omega) (by omega)).mono ?_; rw [decide_eq_true (rfl : b = b)]; rintro e14 w14 ⟨rfl, nq3, hw⟩; have S14 : Sat w w14 _ := hw ▸ S13.drewN nq3; clear hw)
      | (go_at_call 13; refine (roomy_any S0 (fun w' h => HRB.out _ _ h) LB.out (by omega)).mono ?_; rintro e1 w1 ⟨ad, cp, rfl, S1⟩; (have hcp := (sbs_rd S1).2.2.1; have hcp2 : (bl : Int) ≤ (cp : Int) := HCP.out _ hcp))
      | (go_at_call 16; refine (HDA.out _ _ _ _ S1 (HCN.out _ hcp) (fun w' h => rd_prefix h.own_rd)).mono ?_; unfold DecQ; rintro e2 w2 ⟨na2, nc2, da2, dc2, rfl, S2⟩; (dsimp only at S2; have A2 := S2.alloc [.int .i64 0, .int .i64 0, .slice none 0 0, .slice none 0 0] 28))
      | (refine wpList_store_sat (off := 0) (n := 4) rfl 28 _ _ rfl A2 rfl rfl rfl (by simp) Try.sizeQ (by simp [Value.oneCell']) ?_; intro w3 S3; rw [zstore4 (by rfl)] at S3)
      | (go_at_call 22; refine (HDB.out _ _ S3).mono ?_; unfold DecQ; rintro e4 w4 ⟨na4, nc4, da4, dc4, rfl, S4⟩; (dsimp only at S4; have A4 := S4.alloc [.int .i64 0, .int .i64 0, .slice none 0 0, .slice none 0 0] 34))
      | (refine wpList_store_sat (off := 0) (n := 4) rfl 34 _ _ rfl A4 rfl rfl rfl (by simp) Try.sizeQ24 (by simp [Value.oneCell']) ?_; intro w5 S5; rw [zstore4 (by rfl)] at S5)
      | (go_at_call 20; refine (HDC.out _ _ _ _ S5 (HCN.out _ hcp) (fun w' h => rd_prefix (h.sel [6]).own_rd)).mono ?_; unfold DecR; rintro e6 w6 ⟨na6, nc6, da6, dc6, rfl, S6⟩; (dsimp only at S6; have A6 := S6.alloc [.int .i64 0, .int .i64 0, .slice none 0 0, .slice none 0 0] 46))
      | (refine wpList_store_sat (off := 0) (n := 4) rfl 46 _ _ rfl A6 rfl rfl rfl (by simp) Try.sizeP (by simp [Value.oneCell']) ?_; intro w7 S7; rw [zstore4 (by rfl)] at S7)
      | (go_at_call 23; refine (HDD.out _ _ S7).mono ?_; unfold DecR; rintro e8 w8 ⟨na8, nc8, da8, dc8, rfl, S8⟩; (dsimp only at S8; have A8 := S8.alloc [.int .i64 0, .int .i64 0, .slice none 0 0, .slice none 0 0] 43))
      | (refine wpList_store_sat (off := 0) (n := 4) rfl 43 _ _ rfl A8 rfl rfl rfl (by simp) Try.sizeP24 (by simp [Value.oneCell']) ?_; intro w9 S9; rw [zstore4 (by rfl)] at S9)
      | (refine wpList_load_part rfl 34 _ rfl (n := 4) rfl (Sat.whole (S9.sel [6]) 4) rfl Try.underlying34 rfl Try.sizeQ24 ?_)
      | (go_at_call 17; refine (requests_any S9 (fun w' h => (h.sel [10]).own_rd) rfl (fun w' h => (h.sel [11]).own_rd) rfl (fun w' h => (h.sel [7]).own_rd) rfl (fun w' h => (h.sel [8]).own_rd) rfl (by omega) (by omega) (by omega) (by omega)).mono ?_; rw [decide_eq_true (⟨rfl, rfl, rfl, rfl⟩ : k = k ∧ s = s ∧ n = n ∧ d = d)]; rintro e10 w10 ⟨rfl, S10⟩)
      | (refine wpList_load_guard (by rfl) 46 _ rfl (n := 4) rfl (Sat.whole (S10.sel [3]) 4) rfl Try.underlying46 rfl Try.sizeP ?_)
      | (refine wpList_load_guard (by rfl) 43 _ rfl (n := 4) rfl (Sat.whole (S10.sel [0]) 4) rfl Try.underlying43 rfl Try.sizeP24 ?_)
      | (go_at_call 21; refine (replies_any S10 (fun w' h => (h.sel [4]).own_rd) rfl (fun w' h => (h.sel [5]).own_rd) rfl (fun w' h => (h.sel [1]).own_rd) rfl (fun w' h => (h.sel [2]).own_rd) rfl (by omega) (by omega) (by omega) (by omega)).mono ?_; rw [decide_eq_true (⟨rfl, rfl, rfl, rfl⟩ : k2 = k2 ∧ s2 = s2 ∧ n2 = n2 ∧ d2 = d2)]; rintro e11 w11 ⟨rfl, S11⟩)
      | (go_at_call 15; refine (stands_any (S11.sel [12]).own_rd (HRB.out _ _ S11) (by rw [LB.out]) LB.out hcp (by omega)).mono ?_; rintro e12 w12 ⟨rfl, nq2, hw⟩; have S12 : Sat w w12 _ := hw ▸ S11.drewN nq2; clear hw)
      | (refine wpList_load_part rfl 28 _ rfl (n := 4) rfl (Sat.whole (S9.sel [9]) 4) rfl Try.underlying28 rfl Try.sizeQ ?_)
      | (go_at_call 10; refine (known_any S14).mono ?_; rintro e20 w20 ⟨rfl, S20⟩))
    go_ret
    exact ⟨rfl, S20.below⟩
  subst r
  have HEB := Lib.hid (fun (w' : World) (L : List Asn) (h : Sat w w' L) {na da : Option Addr} {nc dc : Nat} (hn : ∀ w', Sat w w' L → Rd w' na (nv n2)) (hd : ∀ w', Sat w w' L → Rd w' da (bv d2)) => wEncodeReply_any h (kind := k2) (fB rfl).1 (c := nc) hn rfl (fB rfl).2.1 (d := dc) hd rfl (fB rfl).2.2 (by unfold maxLen; omega) (by unfold maxLen; omega))
  have HSB := Lib.hid (sB rfl)
  clear fB sB
  go_enter Try.func7, Try.ntmps7
  go_wp2_with (first
      | (refine wpList_load_part rfl 46 _ rfl (n := 4) rfl (Sat.whole (S14.sel [4]) 4) rfl Try.underlying46 rfl Try.sizeP ?_)
      | (go_at_call 18; refine (HEB.out _ _ S14 (fun w' h => (h.sel [5]).own_rd) (fun w' h => (h.sel [6]).own_rd)).mono ?_; unfold Encoded; rw [HSB.out]; rintro e15 w15 ⟨ya, yc, rfl, S15⟩; dsimp only at S15)
      | (go_at_call 11; refine (same_any S15.own_rd (HRB.out _ _ S15) rfl LB.out (by rw [LB.out]; omega) (by omega)).mono ?_; rw [decide_eq_true (rfl : b = b)]; rintro e16 w16 ⟨rfl, nq4, hw⟩; have S16 : Sat w w16 _ := hw ▸ S15.drewN nq4; clear hw)
      | (refine wpList_load_part rfl 28 _ rfl (n := 4) rfl (Sat.whole (S12.sel [9]) 4) rfl Try.underlying28 rfl Try.sizeQ ?_)
      | (go_at_call 9; refine (HEA.out _ _ S12 (fun w' h => (h.sel [10]).own_rd) (fun w' h => (h.sel [11]).own_rd)).mono ?_; unfold Encoded; rw [HSA.out]; rintro e13 w13 ⟨xa, xc, rfl, S13⟩; dsimp only at S13)
      | (go_at_call 11; refine (same_any S13.own_rd (HRB.out _ _ S13) rfl LB.out (by rw [LB.out]; omega) (by omega)).mono ?_; rw [decide_eq_true (rfl : b = b)]; rintro e14 w14 ⟨rfl, nq3, hw⟩; have S14 : Sat w w14 _ := hw ▸ S13.drewN nq3; clear hw)
      | (go_at_call 13; refine (roomy_any S0 (fun w' h => HRB.out _ _ h) LB.out (by omega)).mono ?_; rintro e1 w1 ⟨ad, cp, rfl, S1⟩; (have hcp := (sbs_rd S1).2.2.1; have hcp2 : (bl : Int) ≤ (cp : Int) := HCP.out _ hcp))
      | (go_at_call 16; refine (HDA.out _ _ _ _ S1 (HCN.out _ hcp) (fun w' h => rd_prefix h.own_rd)).mono ?_; unfold DecQ; rintro e2 w2 ⟨na2, nc2, da2, dc2, rfl, S2⟩; (dsimp only at S2; have A2 := S2.alloc [.int .i64 0, .int .i64 0, .slice none 0 0, .slice none 0 0] 28))
      | (refine wpList_store_sat (off := 0) (n := 4) rfl 28 _ _ rfl A2 rfl rfl rfl (by simp) Try.sizeQ (by simp [Value.oneCell']) ?_; intro w3 S3; rw [zstore4 (by rfl)] at S3)
      | (go_at_call 22; refine (HDB.out _ _ S3).mono ?_; unfold DecQ; rintro e4 w4 ⟨na4, nc4, da4, dc4, rfl, S4⟩; (dsimp only at S4; have A4 := S4.alloc [.int .i64 0, .int .i64 0, .slice none 0 0, .slice none 0 0] 34))
      | (refine wpList_store_sat (off := 0) (n := 4) rfl 34 _ _ rfl A4 rfl rfl rfl (by simp) Try.sizeQ24 (by simp [Value.oneCell']) ?_; intro w5 S5; rw [zstore4 (by rfl)] at S5)
      | (go_at_call 20; refine (HDC.out _ _ _ _ S5 (HCN.out _ hcp) (fun w' h => rd_prefix (h.sel [6]).own_rd)).mono ?_; unfold DecR; rintro e6 w6 ⟨na6, nc6, da6, dc6, rfl, S6⟩; (dsimp only at S6; have A6 := S6.alloc [.int .i64 0, .int .i64 0, .slice none 0 0, .slice none 0 0] 46))
      | (refine wpList_store_sat (off := 0) (n := 4) rfl 46 _ _ rfl A6 rfl rfl rfl (by simp) Try.sizeP (by simp [Value.oneCell']) ?_; intro w7 S7; rw [zstore4 (by rfl)] at S7)
      | (go_at_call 23; refine (HDD.out _ _ S7).mono ?_; unfold DecR; rintro e8 w8 ⟨na8, nc8, da8, dc8, rfl, S8⟩; (dsimp only at S8; have A8 := S8.alloc [.int .i64 0, .int .i64 0, .slice none 0 0, .slice none 0 0] 43))
      | (refine wpList_store_sat (off := 0) (n := 4) rfl 43 _ _ rfl A8 rfl rfl rfl (by simp) Try.sizeP24 (by simp [Value.oneCell']) ?_; intro w9 S9; rw [zstore4 (by rfl)] at S9)
      | (refine wpList_load_part rfl 34 _ rfl (n := 4) rfl (Sat.whole (S9.sel [6]) 4) rfl Try.underlying34 rfl Try.sizeQ24 ?_)
      | (go_at_call 17; refine (requests_any S9 (fun w' h => (h.sel [10]).own_rd) rfl (fun w' h => (h.sel [11]).own_rd) rfl (fun w' h => (h.sel [7]).own_rd) rfl (fun w' h => (h.sel [8]).own_rd) rfl (by omega) (by omega) (by omega) (by omega)).mono ?_; rw [decide_eq_true (⟨rfl, rfl, rfl, rfl⟩ : k = k ∧ s = s ∧ n = n ∧ d = d)]; rintro e10 w10 ⟨rfl, S10⟩)
      | (refine wpList_load_guard (by rfl) 46 _ rfl (n := 4) rfl (Sat.whole (S10.sel [3]) 4) rfl Try.underlying46 rfl Try.sizeP ?_)
      | (refine wpList_load_guard (by rfl) 43 _ rfl (n := 4) rfl (Sat.whole (S10.sel [0]) 4) rfl Try.underlying43 rfl Try.sizeP24 ?_)
      | (go_at_call 21; refine (replies_any S10 (fun w' h => (h.sel [4]).own_rd) rfl (fun w' h => (h.sel [5]).own_rd) rfl (fun w' h => (h.sel [1]).own_rd) rfl (fun w' h => (h.sel [2]).own_rd) rfl (by omega) (by omega) (by omega) (by omega)).mono ?_; rw [decide_eq_true (⟨rfl, rfl, rfl, rfl⟩ : k2 = k2 ∧ s2 = s2 ∧ n2 = n2 ∧ d2 = d2)]; rintro e11 w11 ⟨rfl, S11⟩)
      | (go_at_call 15; refine (stands_any (S11.sel [12]).own_rd (HRB.out _ _ S11) (by rw [LB.out]) LB.out hcp (by omega)).mono ?_; rintro e12 w12 ⟨rfl, nq2, hw⟩; have S12 : Sat w w12 _ := hw ▸ S11.drewN nq2; clear hw)
      | (refine wpList_load_part rfl 28 _ rfl (n := 4) rfl (Sat.whole (S9.sel [9]) 4) rfl Try.underlying28 rfl Try.sizeQ ?_)
      | (go_at_call 10; refine (known_any S16).mono ?_; rintro e20 w20 ⟨rfl, S20⟩))
  go_ret
  exact ⟨rfl, S20.below⟩
end Go.Proofs.Ytlkmnbnphgfppaa
