/-
  LiX3, LiX4, LiLwPlays in one text (wip/tools/joint.py)
-/
import Derived.Test.YtdgalljalcediaaLiXJ
import Derived.Test.YtdgalljalcediaaLi3
import Derived.Test.YtdgalljalcediaaLiK
import Derived.Test.YtdgalljalcediaaLiI

section
namespace Go.Proofs.Ytdgalljalcediaa
open Go.RowKit Go.Sep Go.Oct
set_option linter.unusedSimpArgs false

structure PInv (N : Int) (B : Nat) (sa sb : LS) (ps : List (Int × List Int)) : Prop where
  oka : sa.Ok N
  okb : sb.Ok N
  way : ∀ p ∈ ps, (p.1 = 1 ∨ p.1 = 0) ∧ Bytes p.2 ∧ p.2.length ≤ 5000
  len : ps.length ≤ B
theorem PInv.sub {N : Int} {B : Nat} {sa sb : LS} {ps ps' : List (Int × List Int)} (h : PInv N B sa sb ps) (hs : ∀ p ∈ ps', p ∈ ps) (hl : ps'.length ≤ ps.length) : PInv N B sa sb ps' :=
  ⟨h.oka, h.okb, fun p hp => h.way p (hs p hp), Nat.le_trans hl h.len⟩
theorem PInv.mono {N M : Int} {B C : Nat} {sa sb : LS} {ps : List (Int × List Int)} (h : PInv N B sa sb ps) (hN : N ≤ M) (hB : B ≤ C) : PInv M C sa sb ps :=
  ⟨h.oka.mono hN, h.okb.mono hN, h.way, Nat.le_trans h.len hB⟩
theorem PInv.outs {N : Int} {B : Nat} {sa sb : LS} {ps : List (Int × List Int)} (h : PInv N B sa sb ps) {e : Int} (he : e = 1 ∨ e = 0) {ou : List (List Int)} (hs : Small ou) (hl : ou.length ≤ 100) : PInv N (B + 100) sa sb (ps ++ ou.map fun r => (e, r)) := by
  refine ⟨h.oka, h.okb, fun p hp => ?_, by rw [List.length_append, List.length_map]; have := h.len; omega⟩
  rcases List.mem_append.1 hp with hp | hp
  · exact h.way p hp
  · obtain ⟨r, hr, rfl⟩ := List.mem_map.1 hp
    exact ⟨he, hs r hr⟩
theorem PInv.swap {N : Int} {B : Nat} {sa sb : LS} {ps : List (Int × List Int)} (h : PInv N B sa sb ps) : PInv N B sb sa ps := ⟨h.okb, h.oka, h.way, h.len⟩
theorem PInv.left {N M : Int} {B : Nat} {sa sb s : LS} {ps : List (Int × List Int)} (h : PInv N B sa sb ps) (hs : s.Ok M) (hNM : N ≤ M) : PInv M B s sb ps := ⟨hs, h.okb.mono hNM, h.way, h.len⟩
theorem PInv.right {N M : Int} {B : Nat} {sa sb s : LS} {ps : List (Int × List Int)} (h : PInv N B sa sb ps) (hs : s.Ok M) (hNM : N ≤ M) : PInv M B sa s ps := ⟨h.oka.mono hNM, hs, h.way, h.len⟩
/-- what any step leaves -/
def Does2 (W0 : World) (L : List Asn) (x p0 p1 q0 q1 : Nat) (N : Int) (B : Nat) (e : Ending) (w' : World) : Prop :=
  e = .returned (.bool true) ∧ ∃ sa sb ps, PInv (N + 40) (B + 100) sa sb ps ∧ Sat W0 w' (BW2 x p0 p1 q0 q1 ps :: PL p0 sa :: PL p1 sb :: DL q0 sa :: DL q1 sb :: L)

set_option maxRecDepth 100000 in
set_option maxHeartbeats 12800000 in
theorem does_way {W0 w : World} {L : List Asn} {x p0 p1 q0 q1 : Nat} {ps : List (Int × List Int)} {sa sb : LS} {N : Int} {B : Nat} (S : Sat W0 w (BW2 x p0 p1 q0 q1 ps :: PL p0 sa :: PL p1 sb :: DL q0 sa :: DL q1 sb :: L)) (hI : PInv N B sa sb ps) (hN : N ≤ 800000000000) (hB : B ≤ 90000000)
    {kd en n ack : Int} (h1 : ¬ kd = 1) (h5 : ¬ kd = 5) (h6 : ¬ kd = 6) (h7 : ¬ kd = 7) {a : Option Addr} {m c : Nat} :
    Calls Try.prog 25 #[.pointer (some ⟨x, 0, none⟩), .agg #[.int .i64 kd, .int .i64 en, .int .i64 n, .int .i64 ack, .slice a m c]] w (Does2 W0 L x p0 p1 q0 q1 N B) := by
  obtain ⟨wa, wc, Sx⟩ := BW2_open.1 S
  have S1 := Sx.alloc [.int .i64 kd, .int .i64 en, .int .i64 n, .int .i64 ack, .slice a m c] 66
  have hb1 : (kd == 1) = false := by simpa using h1
  have hb5 : (kd == 5) = false := by simpa using h5
  have hb6 : (kd == 6) = false := by simpa using h6
  have hb7 : (kd == 7) = false := by simpa using h7
  have HI := Lib.hid hI
  have hpl := hI.len
  clear h1 h5 h6 h7 S Sx hI
  have hg0 := S1.cell 0 rfl 0
  have hg1 := S1.cell 0 rfl 1
  simp only [List.getElem?_cons_zero, List.getElem?_cons_succ] at hg0 hg1
  go_enter Try.func25, Try.ntmps25
  go_upto_region 1 with fail
  change Sat W0 (w.alloc _) _ at S1
  generalize w.alloc _ = w1 at S1 hg0 hg1 ⊢
  generalize w.heap.size = g at S1 hg0 hg1 ⊢
  have hcx := S1.cell 1 rfl 4
  simp only [List.getElem?_cons_zero, List.getElem?_cons_succ] at hcx
  rcases Nat.eq_zero_or_pos ps.length with h0 | h0
  · have hpe : ((ps.length : Int) == 0) = true := by rw [h0]; rfl
    clear h0
    go_wp2_with fail
    go_ret
    exact ⟨rfl, sa, sb, ps, HI.out.mono (by omega) (by omega), BW2_open.2 ⟨wa, wc, S1.tail⟩⟩
  have hpe : ((ps.length : Int) == 0) = false := by rw [beq_eq_false_iff_ne]; omega
  have hpe2 : ¬ (ps.length : Int) = 0 := by omega
  have hpe3 : ¬ ps = [] := by rintro rfl; simp at h0
  have hm16 : bits .and .i64 n 65535 = n % 65536 := i64_mask n 65535 16 rfl (by decide)
  obtain ⟨kk, hrem, hkk⟩ : ∃ kk : Nat, (n % 65536).tmod (ps.length : Int) = (kk : Int) ∧ kk < ps.length := by
    have h1 : 0 ≤ n % 65536 := by omega
    have h2 := Int.tmod_nonneg (ps.length : Int) h1
    have h3 := Int.tmod_lt_of_pos (n % 65536) (show (0 : Int) < (ps.length : Int) by omega)
    exact ⟨((n % 65536).tmod (ps.length : Int)).toNat, by omega, by omega⟩
  go_upto_region 26 with fail
  clear hg0 hg1 hcx hb1 hb5 hb6 hb7
  refine wp_region_drawn (N := 10) (LN := #[false, false, false, false, false, false, false, false, false, false]) (by kernel_rfl) (by kernel_rfl) (by kernel_rfl) ?_
  have S6 := S1.drew
  generalize w1.drew = w5 at S6 ⊢
  have hcx := S6.cell 1 rfl 4
  have hg2 := S6.cell 0 rfl 2
  simp only [List.getElem?_cons_zero, List.getElem?_cons_succ] at hcx hg2
  clear S1
  refine wpAny_seg 0 9 1 10 #[true, true, true, true, true, true, true, true, true, false] (by kernel_rfl) (by kernel_rfl) ?_
  simp only [List.take_succ_cons, List.take_zero, List.drop_succ_cons, List.drop_zero]
  refine wpStill_step (fun K hK => ?_); go_simp; refine hK _ ?_; clear hK K
  try simp only [Act.put, List.getElem_toArray, List.getElem_cons_zero, List.getElem_cons_succ, List.setIfInBounds_toArray, List.set_cons_zero, List.set_cons_succ]
  refine wpStill_step (fun K hK => ?_); go_simp; refine hK _ ?_; clear hK K
  try simp only [Act.put, List.getElem_toArray, List.getElem_cons_zero, List.getElem_cons_succ, List.setIfInBounds_toArray, List.set_cons_zero, List.set_cons_succ]
  refine wpStill_step (fun K hK => ?_); go_simp; refine hK _ ?_; clear hK K
  try simp only [Act.put, List.getElem_toArray, List.getElem_cons_zero, List.getElem_cons_succ, List.setIfInBounds_toArray, List.set_cons_zero, List.set_cons_succ]
  refine wpStill_step (fun K hK => ?_); go_simp; refine hK _ ?_; clear hK K
  try simp only [Act.put, List.getElem_toArray, List.getElem_cons_zero, List.getElem_cons_succ, List.setIfInBounds_toArray, List.set_cons_zero, List.set_cons_succ]
  refine wpStill_step (fun K hK => ?_); go_simp; refine hK _ ?_; clear hK K
  try simp only [Act.put, List.getElem_toArray, List.getElem_cons_zero, List.getElem_cons_succ, List.setIfInBounds_toArray, List.set_cons_zero, List.set_cons_succ]
  refine wpStill_step (fun K hK => ?_); go_simp; refine hK _ ?_; clear hK K
  try simp only [Act.put, List.getElem_toArray, List.getElem_cons_zero, List.getElem_cons_succ, List.setIfInBounds_toArray, List.set_cons_zero, List.set_cons_succ]
  refine wpStill_step (fun K hK => ?_); go_simp; refine hK _ ?_; clear hK K
  try simp only [Act.put, List.getElem_toArray, List.getElem_cons_zero, List.getElem_cons_succ, List.setIfInBounds_toArray, List.set_cons_zero, List.set_cons_succ]
  refine wpStill_step (fun K hK => ?_); go_simp; refine hK _ ?_; clear hK K
  try simp only [Act.put, List.getElem_toArray, List.getElem_cons_zero, List.getElem_cons_succ, List.setIfInBounds_toArray, List.set_cons_zero, List.set_cons_succ]
  refine wpStill_step (fun K hK => ?_); go_simp; refine hK _ ?_; clear hK K
  try simp only [Act.put, List.getElem_toArray, List.getElem_cons_zero, List.getElem_cons_succ, List.setIfInBounds_toArray, List.set_cons_zero, List.set_cons_succ]
  refine wpStill_nil ?_
  refine wpAny_loc (i := 9) (v := ?_) (LN := #[true, true, true, true, true, true, true, true, true, true]) rfl (by kernel_rfl) (by kernel_rfl) (by kernel_rfl) (fun _ _ _ h => h) (by kernel_rfl) (by rfl) ?_ ?_
  rotate_left
  · intro w; first | (go_simp; done) | (go_simp; with_reducible rfl)
  try simp only [Act.put, List.getElem_toArray, List.getElem_cons_zero, List.getElem_cons_succ, List.setIfInBounds_toArray, List.set_cons_zero, List.set_cons_succ]
  refine ⟨by kernel_rfl, ?_⟩
  try simp only [Act.put, List.getElem_toArray, List.getElem_cons_zero, List.getElem_cons_succ, List.setIfInBounds_toArray, List.set_cons_zero, List.set_cons_succ]
  go_upto_region 27 with fail
  clear hm16 hrem hpe hpe2 hpe3 hg2
  have hkk0 : (0 : Int) ≤ (kk : Int) := by omega
  have hkk1 : (kk : Int) < (ps.length : Int) := by omega
  obtain ⟨⟨tg, p⟩, hp⟩ : ∃ q, ps[kk]? = some q := ⟨_, List.getElem?_eq_getElem hkk⟩
  obtain ⟨hs, -, hsl, S7⟩ := WAY_out (S6.sel [2])
  obtain ⟨⟨pa, pn, pc⟩, hh⟩ : ∃ q, hs[kk]? = some q := ⟨_, List.getElem?_eq_getElem (by omega)⟩
  obtain ⟨w1v, w2v⟩ := wayV_at hp hh
  obtain ⟨wb, wo, rfl, c0⟩ := S7.own_rd (kk * 2) _ w1v
  have c1 := S7.own_rd.at (j := kk * 2 + 1) w2v
  obtain rfl : pn = p.length := by
    obtain ⟨ya, yc, hy, -⟩ := rowsB_at (S7.sel [1]) (i := kk) (r := p) (by rw [List.getElem?_map, hp]; rfl)
    rw [hh] at hy; cases hy; rfl
  have HCW : Hid (∀ j, j < 2 → w5.cell? ⟨wb, wo + kk * 2 + j, none⟩ = ([.int .i64 tg, .slice pa p.length pc] : List Value)[j]?) := by
    show ∀ j, j < 2 → _
    intro j hj
    match j, hj with
    | 0, _ => exact c0
    | 1, _ => exact c1
  have HPS := Lib.hid (⟨hp, hh, hsl⟩ : _ ∧ _ ∧ _)
  clear c0 c1 w1v w2v hp hh hsl S6
  have S8 := (S7.sel [3, 0, 0]).alloc [.int .i64 0, .slice none 0 0] 58
  clear S7
  go_upto_region 28 with (first
    | (refine wpList_load_part rfl 58 _ rfl (n := 2) rfl HCW.out rfl Try.underlying58 rfl Try.sizeK ?_)
    | (refine wpList_store_sat (off := 0) (n := 2) rfl 58 _ _ rfl S8 rfl rfl rfl (by simp) Try.sizeK (by simp [Value.oneCell']) ?_; intro w8 S9; have hg0 := S9.cell 4 rfl 0; simp only [List.getElem?_cons_zero, List.getElem?_cons_succ] at hg0))
  generalize w5.heap.size = pp at S9 ⊢
  by_cases h4 : kd = 4
  focus
    have hb4 : (kd != 4) = false := by rw [h4]; rfl
    have hb3 : (kd == 3) = false := by rw [h4]; rfl
    clear h4
    go_upto_region 30 with fail
    have S9b : Sat W0 w8 (blk pp [.int .i64 tg, .slice pa p.length pc] 58 :: BK x p0 p1 q0 q1 (.slice (some ⟨wb, wo, none⟩) ps.length wc) :: slc 58 2 (some ⟨wb, wo, none⟩) ps.length wc (wayV ps hs) :: rowsB hs (ps.map (·.2)) :: blk g [.int .i64 kd, .int .i64 en, .int .i64 n, .int .i64 ack, .slice a m c] 66 :: PL p0 sa :: PL p1 sb :: DL q0 sa :: DL q1 sb :: L) := S9
    have S18 : Sat W0 w8 (blk pp [.int .i64 tg, .slice pa p.length pc] 58 :: BK x p0 p1 q0 q1 (.slice (some ⟨wb, wo, none⟩) ps.length wc) :: slc 58 2 (some ⟨wb, wo, none⟩) ps.length wc (wayV ps hs) :: rowsB hs (ps.map (·.2)) :: emp :: blk g [.int .i64 kd, .int .i64 en, .int .i64 n, .int .i64 ack, .slice a m c] 66 :: PL p0 sa :: PL p1 sb :: DL q0 sa :: DL q1 sb :: L) := S9b.emp.sel [1, 1, 1, 1]
    have HY0 : Hid (p.length ≤ pc ∧ pc ≤ maxLen) := by
      obtain ⟨k1, e1⟩ := List.getElem?_eq_some_iff.1 HPS.out.2.1
      obtain ⟨S10, -⟩ := rowsB_pick (k := kk) HPS.out.2.1 (r := p) (by rw [List.getElem?_map, HPS.out.1]; rfl) (S9b.sel [3])
      exact ⟨S10.own_len.2.1, S10.own_len.2.2.1⟩
    have HY1 : Hid (∀ w' A B M, Sat W0 w' (BK x p0 p1 q0 q1 (.slice (some ⟨wb, wo, none⟩) ps.length wc) :: slc 58 2 (some ⟨wb, wo, none⟩) ps.length wc (wayV ps hs) :: rowsB hs (ps.map (·.2)) :: A :: B :: emp :: M) → Rd w' pa (bv p)) := by
      intro w' A B M h
      obtain ⟨ya, yc, hy, hr, -⟩ := rowsB_at (h.sel [2]) (i := kk) (r := p) (by rw [List.getElem?_map, HPS.out.1]; rfl)
      have h2 := HPS.out.2.1
      rw [h2] at hy; cases hy
      exact hr
    generalize emp = Z at S18 HY1
    have HSP := HPS.out.1
    have HSP := Lib.hid HSP
    clear S9 S9b HPS HCW hb4
    generalize hyd : (some ⟨wb, wo, none⟩ : Option Addr) = ya2 at S18 HY1
    clear hyd
    have HY4 : Hid ((∀ q ∈ ps, q ∈ ps) ∧ ps.length ≤ ps.length) := ⟨fun q h => h, Nat.le_refl _⟩
    obtain ⟨ps', hs', HY4, S18, HY1⟩ : ∃ ps' hs', Hid ((∀ q ∈ ps', q ∈ ps) ∧ ps'.length ≤ ps.length) ∧ Sat W0 w8 (blk pp [.int .i64 tg, .slice pa p.length pc] 58 :: BK x p0 p1 q0 q1 (.slice ya2 ps'.length wc) :: slc 58 2 ya2 ps'.length wc (wayV ps' hs') :: rowsB hs' (ps'.map (·.2)) :: Z :: blk g [.int .i64 kd, .int .i64 en, .int .i64 n, .int .i64 ack, .slice a m c] 66 :: PL p0 sa :: PL p1 sb :: DL q0 sa :: DL q1 sb :: L) ∧ Hid (∀ w' A B M, Sat W0 w' (BK x p0 p1 q0 q1 (.slice ya2 ps'.length wc) :: slc 58 2 ya2 ps'.length wc (wayV ps' hs') :: rowsB hs' (ps'.map (·.2)) :: A :: B :: Z :: M) → Rd w' pa (bv p)) := ⟨ps, hs, HY4, S18, HY1⟩
    generalize hye : wc = ye at S18 HY1
    clear hye
    generalize hw8 : w8 = w9 at S18 ⊢
    clear hw8
    clear hg0
  rotate_left
  focus
    have hb4 : (kd != 4) = true := by simpa using h4
    go_upto_region 29 with fail
    clear hb4 h4 hg0
    obtain ⟨k0, hik, kz0, kz1, kz2⟩ := info_parts Try.infoK
    have hlc := (S9.sel [2]).own_len
    obtain ⟨k1, hk1⟩ : ∃ k1 : Nat, kk + 1 = k1 := ⟨_, rfl⟩
    have hwk : IntKind.i64.wrap ((kk : Int) + 1) = (k1 : Int) := by rw [IntKind.wrap_i64]; omega
    have hlc1 := hlc.2.1
    have hk10 : (0 : Int) ≤ (k1 : Int) := by omega
    have hk11 : (k1 : Int) ≤ (ps.length : Int) := by omega
    have hkc : (kk : Int) ≤ (wc : Int) := by omega
    have hcap : wc = k1 ∨ k1 < wc := by omega
    have HLC := Lib.hid (⟨hlc, trivial, hk1⟩ : _ ∧ True ∧ _)
    clear hlc hk1
    rcases hcap with hcc | hck
    focus
      subst wc
      have HRD : Hid (∀ (w' : World) (M : List Asn), Sat W0 w' (slc 58 2 (some ⟨wb, wo, none⟩) ps.length k1 (wayV ps hs) :: M) → Rd w' (some ⟨wb, wo, none⟩) ((wayV ps hs).drop (k1 * 2))) := by
        intro w' M h
        rw [List.drop_eq_nil_of_le (by rw [wayV_length HPS.out.2.2]; have := HLC.out; omega)]
        exact Rd.nil _ _
      refine wp_region_drawn (N := 20) (LN := #[false, false, false, false, false, false, false, false, false, false, false, false, false, false, false, false, false, false, false, false]) (by kernel_rfl) (by kernel_rfl) (by kernel_rfl) ?_
      have S10 := S9.drew
      generalize w8.drew = w10 at S10 ⊢
      refine wpAny_until 19 (fun w' => w'.cell? ⟨x, 4, none⟩ = some (.slice (some ⟨wb, wo, none⟩) ps.length k1)) (S10.cell 1 rfl 4 : _) (fun hHeld => ?_)
      refine wpAnyU_tk (by kernel_rfl) (i := 0) (v := ?_) (LN := #[true, false, false, false, false, false, false, false, false, false, false, false, false, false, false, false, false, false, false, false]) rfl (by kernel_rfl) (by kernel_rfl) (by kernel_rfl) (fun _ _ _ h => h) (by kernel_rfl) (by rfl) (by assumption) ?_ ?_
      rotate_left
      · intro w hSw; (try dsimp only at hSw); first | (go_simp; done) | (go_simp; with_reducible rfl)
      try simp only [Act.put, List.getElem_toArray, List.getElem_cons_zero, List.getElem_cons_succ, List.setIfInBounds_toArray, List.set_cons_zero, List.set_cons_succ]
      refine wpAnyU_tk (by kernel_rfl) (i := 2) (v := ?_) (LN := #[true, false, true, false, false, false, false, false, false, false, false, false, false, false, false, false, false, false, false, false]) rfl (by kernel_rfl) (by kernel_rfl) (by kernel_rfl) (fun _ _ _ h => h) (by kernel_rfl) (by rfl) (by assumption) ?_ ?_
      rotate_left
      · intro w hSw; (try dsimp only at hSw); first | (go_simp; done) | (go_simp; with_reducible rfl)
      try simp only [Act.put, List.getElem_toArray, List.getElem_cons_zero, List.getElem_cons_succ, List.setIfInBounds_toArray, List.set_cons_zero, List.set_cons_succ]
      refine wpAnyU_tk (by kernel_rfl) (i := 3) (v := ?_) (LN := #[true, false, true, true, false, false, false, false, false, false, false, false, false, false, false, false, false, false, false, false]) rfl (by kernel_rfl) (by kernel_rfl) (by kernel_rfl) (fun _ _ _ h => h) (by kernel_rfl) (by rfl) (by assumption) ?_ ?_
      rotate_left
      · intro w hSw; (try dsimp only at hSw); first | (go_simp; done) | (go_simp; with_reducible rfl)
      try simp only [Act.put, List.getElem_toArray, List.getElem_cons_zero, List.getElem_cons_succ, List.setIfInBounds_toArray, List.set_cons_zero, List.set_cons_succ]
      refine wpAnyU_tk (by kernel_rfl) (i := 4) (v := ?_) (LN := #[true, false, true, true, true, false, false, false, false, false, false, false, false, false, false, false, false, false, false, false]) rfl (by kernel_rfl) (by kernel_rfl) (by kernel_rfl) (fun _ _ _ h => h) (by kernel_rfl) (by rfl) (by assumption) ?_ ?_
      rotate_left
      · intro w hSw; (try dsimp only at hSw); first | (go_simp; done) | (go_simp; with_reducible rfl)
      try simp only [Act.put, List.getElem_toArray, List.getElem_cons_zero, List.getElem_cons_succ, List.setIfInBounds_toArray, List.set_cons_zero, List.set_cons_succ]
      refine wpAnyU_tk (by kernel_rfl) (i := 5) (v := ?_) (LN := #[true, false, true, true, true, true, false, false, false, false, false, false, false, false, false, false, false, false, false, false]) rfl (by kernel_rfl) (by kernel_rfl) (by kernel_rfl) (fun _ _ _ h => h) (by kernel_rfl) (by rfl) (by assumption) ?_ ?_
      rotate_left
      · intro w hSw; (try dsimp only at hSw); first | (go_simp; done) | (go_simp; with_reducible rfl)
      try simp only [Act.put, List.getElem_toArray, List.getElem_cons_zero, List.getElem_cons_succ, List.setIfInBounds_toArray, List.set_cons_zero, List.set_cons_succ]
      refine wpAnyU_tk (by kernel_rfl) (i := 6) (v := ?_) (LN := #[true, false, true, true, true, true, true, false, false, false, false, false, false, false, false, false, false, false, false, false]) rfl (by kernel_rfl) (by kernel_rfl) (by kernel_rfl) (fun _ _ _ h => h) (by kernel_rfl) (by rfl) (by assumption) ?_ ?_
      rotate_left
      · intro w hSw; (try dsimp only at hSw); first | (go_simp; done) | (go_simp; with_reducible rfl)
      try simp only [Act.put, List.getElem_toArray, List.getElem_cons_zero, List.getElem_cons_succ, List.setIfInBounds_toArray, List.set_cons_zero, List.set_cons_succ]
      refine wpAnyU_tk (by kernel_rfl) (i := 7) (v := ?_) (LN := #[true, false, true, true, true, true, true, true, false, false, false, false, false, false, false, false, false, false, false, false]) rfl (by kernel_rfl) (by kernel_rfl) (by kernel_rfl) (fun _ _ _ h => h) (by kernel_rfl) (by rfl) (by assumption) ?_ ?_
      rotate_left
      · intro w hSw; (try dsimp only at hSw); first | (go_simp; done) | (go_simp; with_reducible rfl)
      try simp only [Act.put, List.getElem_toArray, List.getElem_cons_zero, List.getElem_cons_succ, List.setIfInBounds_toArray, List.set_cons_zero, List.set_cons_succ]
      refine wpAnyU_tk (by kernel_rfl) (i := 9) (v := ?_) (LN := #[true, false, true, true, true, true, true, true, false, true, false, false, false, false, false, false, false, false, false, false]) rfl (by kernel_rfl) (by kernel_rfl) (by kernel_rfl) (fun _ _ _ h => h) (by kernel_rfl) (by rfl) (by assumption) ?_ ?_
      rotate_left
      · intro w hSw; (try dsimp only at hSw); first | (go_simp; done) | (go_simp; with_reducible rfl)
      try simp only [Act.put, List.getElem_toArray, List.getElem_cons_zero, List.getElem_cons_succ, List.setIfInBounds_toArray, List.set_cons_zero, List.set_cons_succ]
      refine wpAnyU_tk (by kernel_rfl) (i := 10) (v := ?_) (LN := #[true, false, true, true, true, true, true, true, false, true, true, false, false, false, false, false, false, false, false, false]) rfl (by kernel_rfl) (by kernel_rfl) (by kernel_rfl) (fun _ _ _ h => h) (by kernel_rfl) (by rfl) (by assumption) ?_ ?_
      rotate_left
      · intro w hSw; (try dsimp only at hSw); first | (go_simp; done) | (go_simp; with_reducible rfl)
      try simp only [Act.put, List.getElem_toArray, List.getElem_cons_zero, List.getElem_cons_succ, List.setIfInBounds_toArray, List.set_cons_zero, List.set_cons_succ]
      refine wpAnyU_tk (by kernel_rfl) (i := 11) (v := ?_) (LN := #[true, false, true, true, true, true, true, true, false, true, true, true, false, false, false, false, false, false, false, false]) rfl (by kernel_rfl) (by kernel_rfl) (by kernel_rfl) (fun _ _ _ h => h) (by kernel_rfl) (by rfl) (by assumption) ?_ ?_
      rotate_left
      · intro w hSw; (try dsimp only at hSw); first | (go_simp; done) | (go_simp; with_reducible rfl)
      try simp only [Act.put, List.getElem_toArray, List.getElem_cons_zero, List.getElem_cons_succ, List.setIfInBounds_toArray, List.set_cons_zero, List.set_cons_succ]
      refine wpAnyU_tk (by kernel_rfl) (i := 12) (v := ?_) (LN := #[true, false, true, true, true, true, true, true, false, true, true, true, true, false, false, false, false, false, false, false]) rfl (by kernel_rfl) (by kernel_rfl) (by kernel_rfl) (fun _ _ _ h => h) (by kernel_rfl) (by rfl) (by assumption) ?_ ?_
      rotate_left
      · intro w hSw; (try dsimp only at hSw); first | (go_simp; done) | (go_simp; with_reducible rfl)
      try simp only [Act.put, List.getElem_toArray, List.getElem_cons_zero, List.getElem_cons_succ, List.setIfInBounds_toArray, List.set_cons_zero, List.set_cons_succ]
      refine wpAnyU_tk (by kernel_rfl) (i := 13) (v := ?_) (LN := #[true, false, true, true, true, true, true, true, false, true, true, true, true, true, false, false, false, false, false, false]) rfl (by kernel_rfl) (by kernel_rfl) (by kernel_rfl) (fun _ _ _ h => h) (by kernel_rfl) (by rfl) (by assumption) ?_ ?_
      rotate_left
      · intro w hSw; (try dsimp only at hSw); first | (go_simp; done) | (go_simp; with_reducible rfl)
      try simp only [Act.put, List.getElem_toArray, List.getElem_cons_zero, List.getElem_cons_succ, List.setIfInBounds_toArray, List.set_cons_zero, List.set_cons_succ]
      refine wpAnyU_tk (by kernel_rfl) (i := 14) (v := ?_) (LN := #[true, false, true, true, true, true, true, true, false, true, true, true, true, true, true, false, false, false, false, false]) rfl (by kernel_rfl) (by kernel_rfl) (by kernel_rfl) (fun _ _ _ h => h) (by kernel_rfl) (by rfl) (by assumption) ?_ ?_
      rotate_left
      · intro w hSw; (try dsimp only at hSw); first | (go_simp; done) | (go_simp; with_reducible rfl)
      try simp only [Act.put, List.getElem_toArray, List.getElem_cons_zero, List.getElem_cons_succ, List.setIfInBounds_toArray, List.set_cons_zero, List.set_cons_succ]
      refine wpAnyU_tk (by kernel_rfl) (i := 15) (v := ?_) (LN := #[true, false, true, true, true, true, true, true, false, true, true, true, true, true, true, true, false, false, false, false]) rfl (by kernel_rfl) (by kernel_rfl) (by kernel_rfl) (fun _ _ _ h => h) (by kernel_rfl) (by rfl) (by assumption) ?_ ?_
      rotate_left
      · intro w hSw; (try dsimp only at hSw); first | (go_simp; done) | (go_simp; with_reducible rfl)
      try simp only [Act.put, List.getElem_toArray, List.getElem_cons_zero, List.getElem_cons_succ, List.setIfInBounds_toArray, List.set_cons_zero, List.set_cons_succ]
      refine wpAnyU_one (by decide) (i := 1) (LN := #[true, true, true, true, true, true, true, true, false, true, true, true, true, true, true, true, false, false, false, false]) (by kernel_rfl) rfl (by kernel_rfl) ?_
      intro K hK
      go_simp
      have S11 := Sat.own_new (n := 0) (cap := 0) (size := 2) (xs := []) (post := []) (S10.alloc [] 58) rfl (Nat.le_refl _) (by unfold maxLen; omega) (by simp)
      refine hK.out _ _ (S11.cell 2 rfl 4 : _) ?_
      clear hK K hHeld
      intro hHeld
      try simp only [Act.put, List.getElem_toArray, List.getElem_cons_zero, List.getElem_cons_succ, List.setIfInBounds_toArray, List.set_cons_zero, List.set_cons_succ]
      refine wpAnyU_one (by decide) (i := 8) (LN := #[true, true, true, true, true, true, true, true, true, true, true, true, true, true, true, true, false, false, false, false]) (by kernel_rfl) rfl (by kernel_rfl) ?_
      intro K hK
      refine step_append_sat rfl _ _ _ rfl 58 k0 _ 2 32 Try.underlying53 hik kz0 kz1 kz2 rfl (by decide) S11 rfl (m := kk) rfl ((S11.sel [3]).own_rd.take (kk * 2)) (by rw [List.length_take, wayV_length HPS.out.2.2]; omega) (fun u hu => wayV_one _ _ u (List.mem_of_mem_take hu)) (by have := HLC.out; unfold maxLen; omega) (by have := HLC.out; omega) ?_
      intro ya yc w12 S12
      rw [Nat.zero_add] at S12 ⊢
      refine hK.out _ _ (S12.cell 2 rfl 4 : _) ?_
      clear hK K hHeld
      intro hHeld
      try simp only [Act.put, List.getElem_toArray, List.getElem_cons_zero, List.getElem_cons_succ, List.setIfInBounds_toArray, List.set_cons_zero, List.set_cons_succ]
      refine wpAnyU_one (by decide) (i := 16) (LN := #[true, true, true, true, true, true, true, true, true, true, true, true, true, true, true, true, true, false, false, false]) (by kernel_rfl) rfl (by kernel_rfl) ?_
      intro K hK
      refine step_append_sat rfl _ _ _ rfl 58 k0 _ 2 32 Try.underlying53 hik kz0 kz1 kz2 rfl (by decide) S12 rfl (m := 0) rfl (news := (wayV ps hs).drop (k1 * 2)) (HRD.out _ _ (S12.sel [3])) (by rw [List.length_drop, wayV_length HPS.out.2.2]; have := HLC.out; omega) (fun u hu => wayV_one _ _ u (List.mem_of_mem_drop hu)) (by have := HLC.out; unfold maxLen; omega) (by have := HLC.out; omega) ?_
      intro yd ye w13 S13
      refine hK.out _ _ (S13.cell 2 rfl 4 : _) ?_
      clear hK K hHeld
      intro hHeld
      try simp only [Act.put, List.getElem_toArray, List.getElem_cons_zero, List.getElem_cons_succ, List.setIfInBounds_toArray, List.set_cons_zero, List.set_cons_succ]
      refine wpAnyU_tk (by kernel_rfl) (i := 17) (v := ?_) (LN := #[true, true, true, true, true, true, true, true, true, true, true, true, true, true, true, true, true, true, false, false]) rfl (by kernel_rfl) (by kernel_rfl) (by kernel_rfl) (fun _ _ _ h => h) (by kernel_rfl) (by rfl) (by assumption) ?_ ?_
      rotate_left
      · intro w hSw; (try dsimp only at hSw); first | (go_simp; done) | (go_simp; with_reducible rfl)
      try simp only [Act.put, List.getElem_toArray, List.getElem_cons_zero, List.getElem_cons_succ, List.setIfInBounds_toArray, List.set_cons_zero, List.set_cons_succ]
      refine wpAnyU_tk (by kernel_rfl) (i := 18) (v := ?_) (LN := #[true, true, true, true, true, true, true, true, true, true, true, true, true, true, true, true, true, true, true, false]) rfl (by kernel_rfl) (by kernel_rfl) (by kernel_rfl) (fun _ _ _ h => h) (by kernel_rfl) (by rfl) (by assumption) ?_ ?_
      rotate_left
      · intro w hSw; (try dsimp only at hSw); first | (go_simp; done) | (go_simp; with_reducible rfl)
      try simp only [Act.put, List.getElem_toArray, List.getElem_cons_zero, List.getElem_cons_succ, List.setIfInBounds_toArray, List.set_cons_zero, List.set_cons_succ]
      refine wpAnyU_fin (i := 19) (LN := #[true, true, true, true, true, true, true, true, true, true, true, true, true, true, true, true, true, true, true, true]) (by kernel_rfl) rfl (by kernel_rfl) ?_
      intro K hK
      have n4 := S13.cell 2 rfl 4
      have m4 := S13.frozen 2 rfl 4
      simp only [List.getElem?_cons_zero, List.getElem?_cons_succ] at n4
      have S14 := S13.setCell (k := 4) (v := .slice yd (kk + (0)) ye) 2 rfl
      go_simp
      refine hK.out _ _ ?_
      clear hK K hHeld
      try simp only [Act.put, List.getElem_toArray, List.getElem_cons_zero, List.getElem_cons_succ, List.setIfInBounds_toArray, List.set_cons_zero, List.set_cons_succ]
      refine ⟨by kernel_rfl, ?_⟩
      try simp only [Act.put, List.getElem_toArray, List.getElem_cons_zero, List.getElem_cons_succ, List.setIfInBounds_toArray, List.set_cons_zero, List.set_cons_succ]
      clear n4 m4 S10 S11 S12
      generalize World.setCell w13 _ _ = w9 at S14 ⊢
      clear S13
      have S15 := (S14.sel [3]).tail.sel [3]
      clear S14
      obtain ⟨S16, -⟩ := rowsB_pick (k := kk) HPS.out.2.1 (r := p) (by rw [List.getElem?_map, HPS.out.1]; rfl) S15
      have e1 : kk + (0) = (ps.take kk ++ ps.drop (kk + 1)).length := by rw [List.length_append, List.length_take, List.length_drop]; have := HLC.out; omega
      have e2 : [] ++ (wayV ps hs).take (kk * 2) ++ (wayV ps hs).drop (k1 * 2) = wayV (ps.take kk ++ ps.drop (kk + 1)) (hs.take kk ++ hs.drop (kk + 1)) := by
        rw [List.nil_append, wayV_append (by rw [List.length_take, List.length_take, HPS.out.2.2]), wayV_take, ← HLC.out.2.2, wayV_drop]
      have e3 : (ps.map (·.2)).take kk ++ (ps.map (·.2)).drop (kk + 1) = (ps.take kk ++ ps.drop (kk + 1)).map (·.2) := by rw [List.map_append, List.map_take, List.map_drop]
      rw [e1, e2, e3] at S16
      have HY4 : Hid ((∀ q ∈ ps.take kk ++ ps.drop (kk + 1), q ∈ ps) ∧ (ps.take kk ++ ps.drop (kk + 1)).length ≤ ps.length) := by
        refine ⟨fun q hq => ?_, by rw [List.length_append, List.length_take, List.length_drop]; omega⟩
        rcases List.mem_append.1 hq with h | h
        · exact List.mem_of_mem_take h
        · exact List.mem_of_mem_drop h
      clear S15 e1 e2 e3
      generalize ps.take kk ++ ps.drop (kk + 1) = ps' at S16 HY4 ⊢
      generalize hs.take kk ++ hs.drop (kk + 1) = hs' at S16 ⊢
      have S18 : Sat W0 w9 (blk pp [.int .i64 tg, .slice pa p.length pc] 58 :: BK x p0 p1 q0 q1 (.slice yd ps'.length ye) :: slc 58 2 yd ps'.length ye (wayV ps' hs') :: rowsB hs' (ps'.map (·.2)) :: sbs pa p.length pc p :: blk g [.int .i64 kd, .int .i64 en, .int .i64 n, .int .i64 ack, .slice a m c] 66 :: PL p0 sa :: PL p1 sb :: DL q0 sa :: DL q1 sb :: L) := S16.sel [3, 3, 2, 1, 0]
      clear S16
      have HY0 : Hid (p.length ≤ pc ∧ pc ≤ maxLen) := ⟨(S18.sel [4]).own_len.2.1, (S18.sel [4]).own_len.2.2.1⟩
      have HY1 : Hid (∀ w' A B M, Sat W0 w' (BK x p0 p1 q0 q1 (.slice yd ps'.length ye) :: slc 58 2 yd ps'.length ye (wayV ps' hs') :: rowsB hs' (ps'.map (·.2)) :: A :: B :: sbs pa p.length pc p :: M) → Rd w' pa (bv p)) := fun w' A B M h => (h.sel [5]).own_rd
      generalize sbs pa p.length pc p = Z at S18 HY1
      have HSP := HPS.out.1
      have HSP := Lib.hid HSP
      clear HLC HRD hlc1 hk10 hk11 hkc HPS HCW 
      generalize hyd : yd = ya2 at S18 HY1 ⊢
      clear hyd
      by_cases h3 : kd = 3
      · have hb3 : (kd == 3) = true := by rw [h3]; rfl
        clear h3
        have hg0 := S18.cell 5 rfl 0
        simp only [List.getElem?_cons_zero, List.getElem?_cons_succ] at hg0
        go_wp2_with fail
        go_ret
        have S19 := WAY_in rfl (S18.sel [2, 2])
        -- S19: WAY, pp, BK, Z, g, PL..
        exact ⟨rfl, sa, sb, ps', (HI.out.sub HY4.out.1 HY4.out.2).mono (by omega) (by omega), BW2_open.2 ⟨ya2, ye, (S19.sel [1, 2, 2]).tail.tail.tail.swap⟩⟩
      have hb3 : (kd == 3) = false := by simpa using h3
      clear h3
    rotate_left
    focus
      have hcn : ¬ wc = k1 := by omega
      have HRD : Hid (∀ (w' : World) (M : List Asn), Sat W0 w' (slc 58 2 (some ⟨wb, wo, none⟩) ps.length wc (wayV ps hs) :: M) → Rd w' (some ⟨wb, wo + k1 * 2, none⟩) ((wayV ps hs).drop (k1 * 2))) := by
        intro w' M h
        exact h.own_rd.drop (k1 * 2)
      refine wp_region_drawn (N := 20) (LN := #[false, false, false, false, false, false, false, false, false, false, false, false, false, false, false, false, false, false, false, false]) (by kernel_rfl) (by kernel_rfl) (by kernel_rfl) ?_
      have S10 := S9.drew
      generalize w8.drew = w10 at S10 ⊢
      refine wpAny_until 19 (fun w' => w'.cell? ⟨x, 4, none⟩ = some (.slice (some ⟨wb, wo, none⟩) ps.length wc)) (S10.cell 1 rfl 4 : _) (fun hHeld => ?_)
      refine wpAnyU_tk (by kernel_rfl) (i := 0) (v := ?_) (LN := #[true, false, false, false, false, false, false, false, false, false, false, false, false, false, false, false, false, false, false, false]) rfl (by kernel_rfl) (by kernel_rfl) (by kernel_rfl) (fun _ _ _ h => h) (by kernel_rfl) (by rfl) (by assumption) ?_ ?_
      rotate_left
      · intro w hSw; (try dsimp only at hSw); first | (go_simp; done) | (go_simp; with_reducible rfl)
      try simp only [Act.put, List.getElem_toArray, List.getElem_cons_zero, List.getElem_cons_succ, List.setIfInBounds_toArray, List.set_cons_zero, List.set_cons_succ]
      refine wpAnyU_tk (by kernel_rfl) (i := 2) (v := ?_) (LN := #[true, false, true, false, false, false, false, false, false, false, false, false, false, false, false, false, false, false, false, false]) rfl (by kernel_rfl) (by kernel_rfl) (by kernel_rfl) (fun _ _ _ h => h) (by kernel_rfl) (by rfl) (by assumption) ?_ ?_
      rotate_left
      · intro w hSw; (try dsimp only at hSw); first | (go_simp; done) | (go_simp; with_reducible rfl)
      try simp only [Act.put, List.getElem_toArray, List.getElem_cons_zero, List.getElem_cons_succ, List.setIfInBounds_toArray, List.set_cons_zero, List.set_cons_succ]
      refine wpAnyU_tk (by kernel_rfl) (i := 3) (v := ?_) (LN := #[true, false, true, true, false, false, false, false, false, false, false, false, false, false, false, false, false, false, false, false]) rfl (by kernel_rfl) (by kernel_rfl) (by kernel_rfl) (fun _ _ _ h => h) (by kernel_rfl) (by rfl) (by assumption) ?_ ?_
      rotate_left
      · intro w hSw; (try dsimp only at hSw); first | (go_simp; done) | (go_simp; with_reducible rfl)
      try simp only [Act.put, List.getElem_toArray, List.getElem_cons_zero, List.getElem_cons_succ, List.setIfInBounds_toArray, List.set_cons_zero, List.set_cons_succ]
      refine wpAnyU_tk (by kernel_rfl) (i := 4) (v := ?_) (LN := #[true, false, true, true, true, false, false, false, false, false, false, false, false, false, false, false, false, false, false, false]) rfl (by kernel_rfl) (by kernel_rfl) (by kernel_rfl) (fun _ _ _ h => h) (by kernel_rfl) (by rfl) (by assumption) ?_ ?_
      rotate_left
      · intro w hSw; (try dsimp only at hSw); first | (go_simp; done) | (go_simp; with_reducible rfl)
      try simp only [Act.put, List.getElem_toArray, List.getElem_cons_zero, List.getElem_cons_succ, List.setIfInBounds_toArray, List.set_cons_zero, List.set_cons_succ]
      refine wpAnyU_tk (by kernel_rfl) (i := 5) (v := ?_) (LN := #[true, false, true, true, true, true, false, false, false, false, false, false, false, false, false, false, false, false, false, false]) rfl (by kernel_rfl) (by kernel_rfl) (by kernel_rfl) (fun _ _ _ h => h) (by kernel_rfl) (by rfl) (by assumption) ?_ ?_
      rotate_left
      · intro w hSw; (try dsimp only at hSw); first | (go_simp; done) | (go_simp; with_reducible rfl)
      try simp only [Act.put, List.getElem_toArray, List.getElem_cons_zero, List.getElem_cons_succ, List.setIfInBounds_toArray, List.set_cons_zero, List.set_cons_succ]
      refine wpAnyU_tk (by kernel_rfl) (i := 6) (v := ?_) (LN := #[true, false, true, true, true, true, true, false, false, false, false, false, false, false, false, false, false, false, false, false]) rfl (by kernel_rfl) (by kernel_rfl) (by kernel_rfl) (fun _ _ _ h => h) (by kernel_rfl) (by rfl) (by assumption) ?_ ?_
      rotate_left
      · intro w hSw; (try dsimp only at hSw); first | (go_simp; done) | (go_simp; with_reducible rfl)
      try simp only [Act.put, List.getElem_toArray, List.getElem_cons_zero, List.getElem_cons_succ, List.setIfInBounds_toArray, List.set_cons_zero, List.set_cons_succ]
      refine wpAnyU_tk (by kernel_rfl) (i := 7) (v := ?_) (LN := #[true, false, true, true, true, true, true, true, false, false, false, false, false, false, false, false, false, false, false, false]) rfl (by kernel_rfl) (by kernel_rfl) (by kernel_rfl) (fun _ _ _ h => h) (by kernel_rfl) (by rfl) (by assumption) ?_ ?_
      rotate_left
      · intro w hSw; (try dsimp only at hSw); first | (go_simp; done) | (go_simp; with_reducible rfl)
      try simp only [Act.put, List.getElem_toArray, List.getElem_cons_zero, List.getElem_cons_succ, List.setIfInBounds_toArray, List.set_cons_zero, List.set_cons_succ]
      refine wpAnyU_tk (by kernel_rfl) (i := 9) (v := ?_) (LN := #[true, false, true, true, true, true, true, true, false, true, false, false, false, false, false, false, false, false, false, false]) rfl (by kernel_rfl) (by kernel_rfl) (by kernel_rfl) (fun _ _ _ h => h) (by kernel_rfl) (by rfl) (by assumption) ?_ ?_
      rotate_left
      · intro w hSw; (try dsimp only at hSw); first | (go_simp; done) | (go_simp; with_reducible rfl)
      try simp only [Act.put, List.getElem_toArray, List.getElem_cons_zero, List.getElem_cons_succ, List.setIfInBounds_toArray, List.set_cons_zero, List.set_cons_succ]
      refine wpAnyU_tk (by kernel_rfl) (i := 10) (v := ?_) (LN := #[true, false, true, true, true, true, true, true, false, true, true, false, false, false, false, false, false, false, false, false]) rfl (by kernel_rfl) (by kernel_rfl) (by kernel_rfl) (fun _ _ _ h => h) (by kernel_rfl) (by rfl) (by assumption) ?_ ?_
      rotate_left
      · intro w hSw; (try dsimp only at hSw); first | (go_simp; done) | (go_simp; with_reducible rfl)
      try simp only [Act.put, List.getElem_toArray, List.getElem_cons_zero, List.getElem_cons_succ, List.setIfInBounds_toArray, List.set_cons_zero, List.set_cons_succ]
      refine wpAnyU_tk (by kernel_rfl) (i := 11) (v := ?_) (LN := #[true, false, true, true, true, true, true, true, false, true, true, true, false, false, false, false, false, false, false, false]) rfl (by kernel_rfl) (by kernel_rfl) (by kernel_rfl) (fun _ _ _ h => h) (by kernel_rfl) (by rfl) (by assumption) ?_ ?_
      rotate_left
      · intro w hSw; (try dsimp only at hSw); first | (go_simp; done) | (go_simp; with_reducible rfl)
      try simp only [Act.put, List.getElem_toArray, List.getElem_cons_zero, List.getElem_cons_succ, List.setIfInBounds_toArray, List.set_cons_zero, List.set_cons_succ]
      refine wpAnyU_tk (by kernel_rfl) (i := 12) (v := ?_) (LN := #[true, false, true, true, true, true, true, true, false, true, true, true, true, false, false, false, false, false, false, false]) rfl (by kernel_rfl) (by kernel_rfl) (by kernel_rfl) (fun _ _ _ h => h) (by kernel_rfl) (by rfl) (by assumption) ?_ ?_
      rotate_left
      · intro w hSw; (try dsimp only at hSw); first | (go_simp; done) | (go_simp; with_reducible rfl)
      try simp only [Act.put, List.getElem_toArray, List.getElem_cons_zero, List.getElem_cons_succ, List.setIfInBounds_toArray, List.set_cons_zero, List.set_cons_succ]
      refine wpAnyU_tk (by kernel_rfl) (i := 13) (v := ?_) (LN := #[true, false, true, true, true, true, true, true, false, true, true, true, true, true, false, false, false, false, false, false]) rfl (by kernel_rfl) (by kernel_rfl) (by kernel_rfl) (fun _ _ _ h => h) (by kernel_rfl) (by rfl) (by assumption) ?_ ?_
      rotate_left
      · intro w hSw; (try dsimp only at hSw); first | (go_simp; done) | (go_simp; with_reducible rfl)
      try simp only [Act.put, List.getElem_toArray, List.getElem_cons_zero, List.getElem_cons_succ, List.setIfInBounds_toArray, List.set_cons_zero, List.set_cons_succ]
      refine wpAnyU_tk (by kernel_rfl) (i := 14) (v := ?_) (LN := #[true, false, true, true, true, true, true, true, false, true, true, true, true, true, true, false, false, false, false, false]) rfl (by kernel_rfl) (by kernel_rfl) (by kernel_rfl) (fun _ _ _ h => h) (by kernel_rfl) (by rfl) (by assumption) ?_ ?_
      rotate_left
      · intro w hSw; (try dsimp only at hSw); first | (go_simp; done) | (go_simp; with_reducible rfl)
      try simp only [Act.put, List.getElem_toArray, List.getElem_cons_zero, List.getElem_cons_succ, List.setIfInBounds_toArray, List.set_cons_zero, List.set_cons_succ]
      refine wpAnyU_tk (by kernel_rfl) (i := 15) (v := ?_) (LN := #[true, false, true, true, true, true, true, true, false, true, true, true, true, true, true, true, false, false, false, false]) rfl (by kernel_rfl) (by kernel_rfl) (by kernel_rfl) (fun _ _ _ h => h) (by kernel_rfl) (by rfl) (by assumption) ?_ ?_
      rotate_left
      · intro w hSw; (try dsimp only at hSw); first | (go_simp; done) | (go_simp; with_reducible rfl)
      try simp only [Act.put, List.getElem_toArray, List.getElem_cons_zero, List.getElem_cons_succ, List.setIfInBounds_toArray, List.set_cons_zero, List.set_cons_succ]
      refine wpAnyU_one (by decide) (i := 1) (LN := #[true, true, true, true, true, true, true, true, false, true, true, true, true, true, true, true, false, false, false, false]) (by kernel_rfl) rfl (by kernel_rfl) ?_
      intro K hK
      go_simp
      have S11 := Sat.own_new (n := 0) (cap := 0) (size := 2) (xs := []) (post := []) (S10.alloc [] 58) rfl (Nat.le_refl _) (by unfold maxLen; omega) (by simp)
      refine hK.out _ _ (S11.cell 2 rfl 4 : _) ?_
      clear hK K hHeld
      intro hHeld
      try simp only [Act.put, List.getElem_toArray, List.getElem_cons_zero, List.getElem_cons_succ, List.setIfInBounds_toArray, List.set_cons_zero, List.set_cons_succ]
      refine wpAnyU_one (by decide) (i := 8) (LN := #[true, true, true, true, true, true, true, true, true, true, true, true, true, true, true, true, false, false, false, false]) (by kernel_rfl) rfl (by kernel_rfl) ?_
      intro K hK
      refine step_append_sat rfl _ _ _ rfl 58 k0 _ 2 32 Try.underlying53 hik kz0 kz1 kz2 rfl (by decide) S11 rfl (m := kk) rfl ((S11.sel [3]).own_rd.take (kk * 2)) (by rw [List.length_take, wayV_length HPS.out.2.2]; omega) (fun u hu => wayV_one _ _ u (List.mem_of_mem_take hu)) (by have := HLC.out; unfold maxLen; omega) (by have := HLC.out; omega) ?_
      intro ya yc w12 S12
      rw [Nat.zero_add] at S12 ⊢
      refine hK.out _ _ (S12.cell 2 rfl 4 : _) ?_
      clear hK K hHeld
      intro hHeld
      try simp only [Act.put, List.getElem_toArray, List.getElem_cons_zero, List.getElem_cons_succ, List.setIfInBounds_toArray, List.set_cons_zero, List.set_cons_succ]
      refine wpAnyU_one (by decide) (i := 16) (LN := #[true, true, true, true, true, true, true, true, true, true, true, true, true, true, true, true, true, false, false, false]) (by kernel_rfl) rfl (by kernel_rfl) ?_
      intro K hK
      refine step_append_sat rfl _ _ _ rfl 58 k0 _ 2 32 Try.underlying53 hik kz0 kz1 kz2 rfl (by decide) S12 rfl (m := ps.length - k1) rfl (news := (wayV ps hs).drop (k1 * 2)) (HRD.out _ _ (S12.sel [3])) (by rw [List.length_drop, wayV_length HPS.out.2.2]; have := HLC.out; omega) (fun u hu => wayV_one _ _ u (List.mem_of_mem_drop hu)) (by have := HLC.out; unfold maxLen; omega) (by have := HLC.out; omega) ?_
      intro yd ye w13 S13
      refine hK.out _ _ (S13.cell 2 rfl 4 : _) ?_
      clear hK K hHeld
      intro hHeld
      try simp only [Act.put, List.getElem_toArray, List.getElem_cons_zero, List.getElem_cons_succ, List.setIfInBounds_toArray, List.set_cons_zero, List.set_cons_succ]
      refine wpAnyU_tk (by kernel_rfl) (i := 17) (v := ?_) (LN := #[true, true, true, true, true, true, true, true, true, true, true, true, true, true, true, true, true, true, false, false]) rfl (by kernel_rfl) (by kernel_rfl) (by kernel_rfl) (fun _ _ _ h => h) (by kernel_rfl) (by rfl) (by assumption) ?_ ?_
      rotate_left
      · intro w hSw; (try dsimp only at hSw); first | (go_simp; done) | (go_simp; with_reducible rfl)
      try simp only [Act.put, List.getElem_toArray, List.getElem_cons_zero, List.getElem_cons_succ, List.setIfInBounds_toArray, List.set_cons_zero, List.set_cons_succ]
      refine wpAnyU_tk (by kernel_rfl) (i := 18) (v := ?_) (LN := #[true, true, true, true, true, true, true, true, true, true, true, true, true, true, true, true, true, true, true, false]) rfl (by kernel_rfl) (by kernel_rfl) (by kernel_rfl) (fun _ _ _ h => h) (by kernel_rfl) (by rfl) (by assumption) ?_ ?_
      rotate_left
      · intro w hSw; (try dsimp only at hSw); first | (go_simp; done) | (go_simp; with_reducible rfl)
      try simp only [Act.put, List.getElem_toArray, List.getElem_cons_zero, List.getElem_cons_succ, List.setIfInBounds_toArray, List.set_cons_zero, List.set_cons_succ]
      refine wpAnyU_fin (i := 19) (LN := #[true, true, true, true, true, true, true, true, true, true, true, true, true, true, true, true, true, true, true, true]) (by kernel_rfl) rfl (by kernel_rfl) ?_
      intro K hK
      have n4 := S13.cell 2 rfl 4
      have m4 := S13.frozen 2 rfl 4
      simp only [List.getElem?_cons_zero, List.getElem?_cons_succ] at n4
      have S14 := S13.setCell (k := 4) (v := .slice yd (kk + (ps.length - k1)) ye) 2 rfl
      go_simp
      refine hK.out _ _ ?_
      clear hK K hHeld
      try simp only [Act.put, List.getElem_toArray, List.getElem_cons_zero, List.getElem_cons_succ, List.setIfInBounds_toArray, List.set_cons_zero, List.set_cons_succ]
      refine ⟨by kernel_rfl, ?_⟩
      try simp only [Act.put, List.getElem_toArray, List.getElem_cons_zero, List.getElem_cons_succ, List.setIfInBounds_toArray, List.set_cons_zero, List.set_cons_succ]
      clear n4 m4 S10 S11 S12
      generalize World.setCell w13 _ _ = w9 at S14 ⊢
      clear S13
      have S15 := (S14.sel [3]).tail.sel [3]
      clear S14
      obtain ⟨S16, -⟩ := rowsB_pick (k := kk) HPS.out.2.1 (r := p) (by rw [List.getElem?_map, HPS.out.1]; rfl) S15
      have e1 : kk + (ps.length - k1) = (ps.take kk ++ ps.drop (kk + 1)).length := by rw [List.length_append, List.length_take, List.length_drop]; have := HLC.out; omega
      have e2 : [] ++ (wayV ps hs).take (kk * 2) ++ (wayV ps hs).drop (k1 * 2) = wayV (ps.take kk ++ ps.drop (kk + 1)) (hs.take kk ++ hs.drop (kk + 1)) := by
        rw [List.nil_append, wayV_append (by rw [List.length_take, List.length_take, HPS.out.2.2]), wayV_take, ← HLC.out.2.2, wayV_drop]
      have e3 : (ps.map (·.2)).take kk ++ (ps.map (·.2)).drop (kk + 1) = (ps.take kk ++ ps.drop (kk + 1)).map (·.2) := by rw [List.map_append, List.map_take, List.map_drop]
      rw [e1, e2, e3] at S16
      have HY4 : Hid ((∀ q ∈ ps.take kk ++ ps.drop (kk + 1), q ∈ ps) ∧ (ps.take kk ++ ps.drop (kk + 1)).length ≤ ps.length) := by
        refine ⟨fun q hq => ?_, by rw [List.length_append, List.length_take, List.length_drop]; omega⟩
        rcases List.mem_append.1 hq with h | h
        · exact List.mem_of_mem_take h
        · exact List.mem_of_mem_drop h
      clear S15 e1 e2 e3
      generalize ps.take kk ++ ps.drop (kk + 1) = ps' at S16 HY4 ⊢
      generalize hs.take kk ++ hs.drop (kk + 1) = hs' at S16 ⊢
      have S18 : Sat W0 w9 (blk pp [.int .i64 tg, .slice pa p.length pc] 58 :: BK x p0 p1 q0 q1 (.slice yd ps'.length ye) :: slc 58 2 yd ps'.length ye (wayV ps' hs') :: rowsB hs' (ps'.map (·.2)) :: sbs pa p.length pc p :: blk g [.int .i64 kd, .int .i64 en, .int .i64 n, .int .i64 ack, .slice a m c] 66 :: PL p0 sa :: PL p1 sb :: DL q0 sa :: DL q1 sb :: L) := S16.sel [3, 3, 2, 1, 0]
      clear S16
      have HY0 : Hid (p.length ≤ pc ∧ pc ≤ maxLen) := ⟨(S18.sel [4]).own_len.2.1, (S18.sel [4]).own_len.2.2.1⟩
      have HY1 : Hid (∀ w' A B M, Sat W0 w' (BK x p0 p1 q0 q1 (.slice yd ps'.length ye) :: slc 58 2 yd ps'.length ye (wayV ps' hs') :: rowsB hs' (ps'.map (·.2)) :: A :: B :: sbs pa p.length pc p :: M) → Rd w' pa (bv p)) := fun w' A B M h => (h.sel [5]).own_rd
      generalize sbs pa p.length pc p = Z at S18 HY1
      have HSP := HPS.out.1
      have HSP := Lib.hid HSP
      clear HLC HRD hlc1 hk10 hk11 hkc HPS HCW hcn hck
      generalize hyd : yd = ya2 at S18 HY1 ⊢
      clear hyd
      by_cases h3 : kd = 3
      · have hb3 : (kd == 3) = true := by rw [h3]; rfl
        clear h3
        have hg0 := S18.cell 5 rfl 0
        simp only [List.getElem?_cons_zero, List.getElem?_cons_succ] at hg0
        go_wp2_with fail
        go_ret
        have S19 := WAY_in rfl (S18.sel [2, 2])
        -- S19: WAY, pp, BK, Z, g, PL..
        exact ⟨rfl, sa, sb, ps', (HI.out.sub HY4.out.1 HY4.out.2).mono (by omega) (by omega), BW2_open.2 ⟨ya2, ye, (S19.sel [1, 2, 2]).tail.tail.tail.swap⟩⟩
      have hb3 : (kd == 3) = false := by simpa using h3
      clear h3
  all_goals
    have hg0 := S18.cell 5 rfl 0
    have hp0 := S18.cell 0 rfl 0
    have hp1 := S18.cell 0 rfl 1
    simp only [List.getElem?_cons_zero, List.getElem?_cons_succ] at hg0 hp0 hp1
    have ht1 := (HI.out.way _ (List.mem_of_getElem? HSP.out)).1
    dsimp only at ht1
    rcases ht1 with rfl | rfl
    · have hin : ((1 : Int), p) ∈ ps := List.mem_of_getElem? HSP.out
      have hpb := HI.out.way _ hin
      dsimp only at hpb
      have hok := HI.out.okb
      have hps' : ps'.length ≤ 100000000 := by have := HY4.out.2; omega
      have S20 := ((S18.sel [1, 1, 1, 4, 5]).sel [0, 0, 0, 0, 0, 1])
      have HH := hears_any (ei := 1) (.inr ⟨rfl, rfl, rfl⟩) S20 hok (by omega) hps' (a := pa) (m := p.length) (c := pc) (b := p) (fun w' A B h => HY1.out _ _ _ _ h) rfl hpb.2.1 HY0.out.1 HY0.out.2 (by omega)
      have HJ : Hid (PInv (N + 40) (B + 100) sa (hearP sb p).2.2 (ps' ++ (hearP sb p).2.1.map fun r => ((0 : Int), r))) :=
        (((HI.out.sub HY4.out.1 HY4.out.2).right (hok.hear p) (by omega)).outs (by omega) (hok.hearOut (by omega) p) hear_outs_len)
      generalize hearP sb p = R at HH HJ
      obtain ⟨rr, oo, s2⟩ := R
      dsimp only at HJ
      have HH := Lib.hid HH
      clear hok hpb hin
      go_wp2_with (first
        | (go_at_call 43; refine HH.out.mono ?_; unfold HearsPost; rintro e w14 ⟨rfl, S14⟩))
      go_ret
      exact ⟨rfl, _, _, _, HJ.out, (S14.sel [3, 3, 3]).tail.tail.tail.sel [0, 2, 0, 1]⟩
    · have hin : ((0 : Int), p) ∈ ps := List.mem_of_getElem? HSP.out
      have hpb := HI.out.way _ hin
      dsimp only at hpb
      have hok := HI.out.oka
      have hps' : ps'.length ≤ 100000000 := by have := HY4.out.2; omega
      have S20 := ((S18.sel [1, 1, 1, 3, 4]).sel [0, 0, 0, 0, 0, 1])
      have HH := hears_any (ei := 0) (.inl ⟨rfl, rfl, rfl⟩) S20 hok (by omega) hps' (a := pa) (m := p.length) (c := pc) (b := p) (fun w' A B h => HY1.out _ _ _ _ h) rfl hpb.2.1 HY0.out.1 HY0.out.2 (by omega)
      have HJ : Hid (PInv (N + 40) (B + 100) (hearP sa p).2.2 sb (ps' ++ (hearP sa p).2.1.map fun r => ((1 : Int), r))) :=
        (((HI.out.sub HY4.out.1 HY4.out.2).left (hok.hear p) (by omega)).outs (by omega) (hok.hearOut (by omega) p) hear_outs_len)
      generalize hearP sa p = R at HH HJ
      obtain ⟨rr, oo, s2⟩ := R
      dsimp only at HJ
      have HH := Lib.hid HH
      clear hok hpb hin
      go_wp2_with (first
        | (go_at_call 43; refine HH.out.mono ?_; unfold HearsPost; rintro e w14 ⟨rfl, S14⟩))
      go_ret
      exact ⟨rfl, _, _, _, HJ.out, (S14.sel [3, 3, 3]).tail.tail.tail.sel [0, 0, 1]⟩
end Go.Proofs.Ytdgalljalcediaa
end

section
namespace Go.Proofs.Ytdgalljalcediaa
open Go.RowKit Go.Sep Go.Oct
set_option linter.unusedSimpArgs false

theorem does_any {W0 w : World} {L : List Asn} {x p0 p1 q0 q1 : Nat} {ps : List (Int × List Int)} {sa sb : LS} {N : Int} {B : Nat} (S : Sat W0 w (BW2 x p0 p1 q0 q1 ps :: PL p0 sa :: PL p1 sb :: DL q0 sa :: DL q1 sb :: L)) (hI : PInv N B sa sb ps) (hN : N ≤ 800000000000) (hB : B ≤ 90000000)
    {kd en n ack : Int} (hn : I64 n) (hk : I64 ack) {a : Option Addr} {m c : Nat} {b : List Int} (hR : Rd W0 a (bv b)) (hm : b.length = m) (hBy : Bytes b) (hmc : m ≤ c) (hcm : c ≤ maxLen) (hb : m ≤ 9000) :
    Calls Try.prog 25 #[.pointer (some ⟨x, 0, none⟩), .agg #[.int .i64 kd, .int .i64 en, .int .i64 n, .int .i64 ack, .slice a m c]] w (Does2 W0 L x p0 p1 q0 q1 N B) := by
  have hps : ps.length ≤ 100000000 := by have := hI.len; omega
  have hb1 : bits .and .i64 en 1 = en % 2 := i64_mask en 1 1 rfl (by decide)
  have SA : Sat W0 w (BW2 x p0 p1 q0 q1 ps :: PL p0 sa :: DL q0 sa :: PL p1 sb :: DL q1 sb :: L) := S.sel [0, 0, 1]
  have SB : Sat W0 w (BW2 x p0 p1 q0 q1 ps :: PL p1 sb :: DL q1 sb :: PL p0 sa :: DL q0 sa :: L) := S.sel [0, 1, 2]
  have hA : ∀ {s : LS} {M : Int} {ou : List (List Int)}, s.Ok M → M ≤ N + 40 → Small ou → ou.length ≤ 100 → ∀ (e : Ending) (w' : World), DoesPost W0 (PL p1 sb :: DL q1 sb :: L) x p0 p1 q0 q1 (ps ++ ou.map fun r => ((1 : Int), r)) p0 q0 s e w' → Does2 W0 L x p0 p1 q0 q1 N B e w' := by
    rintro s M ou ok hM hs hl e w' ⟨he, h⟩
    exact ⟨he, s, sb, _, ((hI.left (ok.mono hM) (by omega)).outs (.inl rfl) hs hl), h.sel [0, 0, 1]⟩
  have hC : ∀ {s : LS} {M : Int} {ou : List (List Int)}, s.Ok M → M ≤ N + 40 → Small ou → ou.length ≤ 100 → ∀ (e : Ending) (w' : World), DoesPost W0 (PL p0 sa :: DL q0 sa :: L) x p0 p1 q0 q1 (ps ++ ou.map fun r => ((0 : Int), r)) p1 q1 s e w' → Does2 W0 L x p0 p1 q0 q1 N B e w' := by
    rintro s M ou ok hM hs hl e w' ⟨he, h⟩
    exact ⟨he, sa, s, _, ((hI.right (ok.mono hM) (by omega)).outs (.inr rfl) hs hl), h.sel [0, 2, 0, 1]⟩
  by_cases h1 : kd = 1
  · subst h1
    by_cases he : en % 2 = 0
    · exact (does_send0 SA hI.oka (by omega) hps (hb1.trans he) hR hm hBy (by omega)).mono (hA (hI.oka.send hBy) (by omega) (hI.oka.sendOut (by omega) hBy) send_outs_len)
    · exact (does_send1 SB hI.okb (by omega) hps (hb1.trans (by omega)) hR hm hBy (by omega)).mono (hC (hI.okb.send hBy) (by omega) (hI.okb.sendOut (by omega) hBy) send_outs_len)
  by_cases h5 : kd = 5
  · subst h5
    by_cases he : en % 2 = 0
    · exact (does_tick0 SA hI.oka (by omega) hps (hb1.trans he) a m c).mono (hA hI.oka.tick (by omega) (hI.oka.tickOut (by omega)) (tick_outs_len hI.oka))
    · exact (does_tick1 SB hI.okb (by omega) hps (hb1.trans (by omega)) a m c).mono (hC hI.okb.tick (by omega) (hI.okb.tickOut (by omega)) (tick_outs_len hI.okb))
  by_cases h6 : kd = 6
  · subst h6
    by_cases he : en % 2 = 0
    · exact (does_raw0 SA hI.oka (by omega) hps (hb1.trans he) hR hm hBy hmc hcm (by omega)).mono (hA (hI.oka.hear b) (by omega) (hI.oka.hearOut (by omega) b) hear_outs_len)
    · exact (does_raw1 SB hI.okb (by omega) hps (hb1.trans (by omega)) hR hm hBy hmc hcm (by omega)).mono (hC (hI.okb.hear b) (by omega) (hI.okb.hearOut (by omega) b) hear_outs_len)
  by_cases h7 : kd = 7
  · subst h7
    by_cases he : en % 2 = 0
    · exact (does_pack0 SA hI.oka (by omega) hps (hb1.trans he) hn hk hR hm hBy hb).mono (hA (hI.oka.hear _) (by omega) (hI.oka.hearOut (by omega) _) hear_outs_len)
    · exact (does_pack1 SB hI.okb (by omega) hps (hb1.trans (by omega)) hn hk hR hm hBy hb).mono (hC (hI.okb.hear _) (by omega) (hI.okb.hearOut (by omega) _) hear_outs_len)
  exact does_way S hI hN hB h1 h5 h6 h7

set_option maxRecDepth 100000 in
set_option maxHeartbeats 6400000 in
theorem stood_any {W0 w : World} {L : List Asn} {x p0 p1 q0 q1 : Nat} {ps : List (Int × List Int)} {sa sb : LS} (S : Sat W0 w (BW2 x p0 p1 q0 q1 ps :: PL p0 sa :: PL p1 sb :: DL q0 sa :: DL q1 sb :: L)) :
    Calls Try.prog 26 #[.pointer (some ⟨x, 0, none⟩)] w fun e w' => e = .returned (.bool true) ∧ Sat W0 w' (BW2 x p0 p1 q0 q1 ps :: PL p0 sa :: PL p1 sb :: DL q0 sa :: DL q1 sb :: L) := by
  go_enter Try.func26, Try.ntmps26
  go_wp2_with fail
  go_loopw [3] (fun i wr => ∃ k : Nat, k ≤ 2 ∧ i = .int .i64 k ∧ Sat W0 wr (BW2 x p0 p1 q0 q1 ps :: PL p0 sa :: PL p1 sb :: DL q0 sa :: DL q1 sb :: L)) (fun i _ => 2 - (intOf i).toNat)
  case atStart => exact ⟨0, by omega, rfl, S⟩
  case round =>
    clear S
    obtain ⟨k, hk, rfl, S0⟩ := hrel
    obtain ⟨wa, wc, S1⟩ := BW2_open.1 S0
    rcases (by omega : k = 0 ∨ k = 1 ∨ k = 2) with rfl | rfl | rfl
    · have hcs := S1.cell 0 rfl 0
      simp only [List.getElem?_cons_zero, List.getElem?_cons_succ] at hcs
      have hnn : ((sa.rows.length : Int) != (sa.rows.length : Int)) = false := by simp
      have hss : (sa.sent != sa.sent) = false := by simp
      have hvv : (sa.vain != sa.vain) = false := by simp
      go_upto_region 5 with (first
        | (go_at_call 20; refine (stats_any (S1.sel [2])).mono ?_; rintro e w2 ⟨rfl, S2⟩))
      obtain ⟨ra, rc, S3⟩ := DL_open.1 (S2.sel [4])
      clear hcs S2
      refine wp_region_drawn (N := 44) (LN := #[false, false, false, false, false, false, false, false, false, false, false, false, false, false, false, false, false, false, false, false, false, false, false, false, false, false, false, false, false, false, false, false, false, false, false, false, false, false, false, false, false, false, false, false]) (by kernel_rfl) (by kernel_rfl) (by kernel_rfl) ?_
      have S4 := S3.drew
      generalize w2.drew = w4 at S4 ⊢
      clear S3
      refine wpAny_held (fun w' => w'.cell? ⟨x, 0, none⟩ = some (.pointer (some ⟨p0, 0, none⟩)) ∧ w'.cell? ⟨x, 2, none⟩ = some (.pointer (some ⟨q0, 0, none⟩)) ∧ w'.cell? ⟨q0, 1, none⟩ = some (.slice ra sa.rows.length rc) ∧ w'.cell? ⟨q0, 6, none⟩ = some (.int .i64 sa.sent) ∧ w'.cell? ⟨q0, 7, none⟩ = some (.int .i64 sa.vain)) ⟨(S4.cell 3 rfl 0 : _), (S4.cell 3 rfl 2 : _), (S4.cell 0 rfl 1 : _), (S4.cell 0 rfl 6 : _), (S4.cell 0 rfl 7 : _)⟩ (fun hHeld => ?_)
      refine wpAnyH_tk (i := 0) (v := ?_) (LN := #[true, false, false, false, false, false, false, false, false, false, false, false, false, false, false, false, false, false, false, false, false, false, false, false, false, false, false, false, false, false, false, false, false, false, false, false, false, false, false, false, false, false, false, false]) rfl (by kernel_rfl) (by kernel_rfl) (by kernel_rfl) (fun _ _ _ h => h) (by kernel_rfl) (by rfl) (by assumption) ?_ ?_
      rotate_left
      · intro w hSw; (try dsimp only at hSw); first | (go_simp; done) | (go_simp; with_reducible rfl)
      try simp only [Act.put, List.getElem_toArray, List.getElem_cons_zero, List.getElem_cons_succ, List.setIfInBounds_toArray, List.set_cons_zero, List.set_cons_succ]
      refine wpAnyH_tk (i := 1) (v := ?_) (LN := #[true, true, false, false, false, false, false, false, false, false, false, false, false, false, false, false, false, false, false, false, false, false, false, false, false, false, false, false, false, false, false, false, false, false, false, false, false, false, false, false, false, false, false, false]) rfl (by kernel_rfl) (by kernel_rfl) (by kernel_rfl) (fun _ _ _ h => h) (by kernel_rfl) (by rfl) (by assumption) ?_ ?_
      rotate_left
      · intro w hSw; (try dsimp only at hSw); first | (go_simp; done) | (go_simp; with_reducible rfl)
      try simp only [Act.put, List.getElem_toArray, List.getElem_cons_zero, List.getElem_cons_succ, List.setIfInBounds_toArray, List.set_cons_zero, List.set_cons_succ]
      refine wpAnyH_tk (i := 2) (v := ?_) (LN := #[true, true, true, false, false, false, false, false, false, false, false, false, false, false, false, false, false, false, false, false, false, false, false, false, false, false, false, false, false, false, false, false, false, false, false, false, false, false, false, false, false, false, false, false]) rfl (by kernel_rfl) (by kernel_rfl) (by kernel_rfl) (fun _ _ _ h => h) (by kernel_rfl) (by rfl) (by assumption) ?_ ?_
      rotate_left
      · intro w hSw; (try dsimp only at hSw); first | (go_simp; done) | (go_simp; with_reducible rfl)
      try simp only [Act.put, List.getElem_toArray, List.getElem_cons_zero, List.getElem_cons_succ, List.setIfInBounds_toArray, List.set_cons_zero, List.set_cons_succ]
      refine wpAnyH_tk (i := 3) (v := ?_) (LN := #[true, true, true, true, false, false, false, false, false, false, false, false, false, false, false, false, false, false, false, false, false, false, false, false, false, false, false, false, false, false, false, false, false, false, false, false, false, false, false, false, false, false, false, false]) rfl (by kernel_rfl) (by kernel_rfl) (by kernel_rfl) (fun _ _ _ h => h) (by kernel_rfl) (by rfl) (by assumption) ?_ ?_
      rotate_left
      · intro w hSw; (try dsimp only at hSw); first | (go_simp; done) | (go_simp; with_reducible rfl)
      try simp only [Act.put, List.getElem_toArray, List.getElem_cons_zero, List.getElem_cons_succ, List.setIfInBounds_toArray, List.set_cons_zero, List.set_cons_succ]
      refine wpAnyH_tk (i := 4) (v := ?_) (LN := #[true, true, true, true, true, false, false, false, false, false, false, false, false, false, false, false, false, false, false, false, false, false, false, false, false, false, false, false, false, false, false, false, false, false, false, false, false, false, false, false, false, false, false, false]) rfl (by kernel_rfl) (by kernel_rfl) (by kernel_rfl) (fun _ _ _ h => h) (by kernel_rfl) (by rfl) (by assumption) ?_ ?_
      rotate_left
      · intro w hSw; (try dsimp only at hSw); first | (go_simp; done) | (go_simp; with_reducible rfl)
      try simp only [Act.put, List.getElem_toArray, List.getElem_cons_zero, List.getElem_cons_succ, List.setIfInBounds_toArray, List.set_cons_zero, List.set_cons_succ]
      refine wpAnyH_tk (i := 5) (v := ?_) (LN := #[true, true, true, true, true, true, false, false, false, false, false, false, false, false, false, false, false, false, false, false, false, false, false, false, false, false, false, false, false, false, false, false, false, false, false, false, false, false, false, false, false, false, false, false]) rfl (by kernel_rfl) (by kernel_rfl) (by kernel_rfl) (fun _ _ _ h => h) (by kernel_rfl) (by rfl) (by assumption) ?_ ?_
      rotate_left
      · intro w hSw; (try dsimp only at hSw); first | (go_simp; done) | (go_simp; with_reducible rfl)
      try simp only [Act.put, List.getElem_toArray, List.getElem_cons_zero, List.getElem_cons_succ, List.setIfInBounds_toArray, List.set_cons_zero, List.set_cons_succ]
      refine wpAnyH_tk (i := 7) (v := ?_) (LN := #[true, true, true, true, true, true, false, true, false, false, false, false, false, false, false, false, false, false, false, false, false, false, false, false, false, false, false, false, false, false, false, false, false, false, false, false, false, false, false, false, false, false, false, false]) rfl (by kernel_rfl) (by kernel_rfl) (by kernel_rfl) (fun _ _ _ h => h) (by kernel_rfl) (by rfl) (by assumption) ?_ ?_
      rotate_left
      · intro w hSw; (try dsimp only at hSw); first | (go_simp; done) | (go_simp; with_reducible rfl)
      try simp only [Act.put, List.getElem_toArray, List.getElem_cons_zero, List.getElem_cons_succ, List.setIfInBounds_toArray, List.set_cons_zero, List.set_cons_succ]
      refine wpAnyH_tk (i := 8) (v := ?_) (LN := #[true, true, true, true, true, true, false, true, true, false, false, false, false, false, false, false, false, false, false, false, false, false, false, false, false, false, false, false, false, false, false, false, false, false, false, false, false, false, false, false, false, false, false, false]) rfl (by kernel_rfl) (by kernel_rfl) (by kernel_rfl) (fun _ _ _ h => h) (by kernel_rfl) (by rfl) (by assumption) ?_ ?_
      rotate_left
      · intro w hSw; (try dsimp only at hSw); first | (go_simp; done) | (go_simp; with_reducible rfl)
      try simp only [Act.put, List.getElem_toArray, List.getElem_cons_zero, List.getElem_cons_succ, List.setIfInBounds_toArray, List.set_cons_zero, List.set_cons_succ]
      refine wpAnyH_tk (i := 9) (v := ?_) (LN := #[true, true, true, true, true, true, false, true, true, true, false, false, false, false, false, false, false, false, false, false, false, false, false, false, false, false, false, false, false, false, false, false, false, false, false, false, false, false, false, false, false, false, false, false]) rfl (by kernel_rfl) (by kernel_rfl) (by kernel_rfl) (fun _ _ _ h => h) (by kernel_rfl) (by rfl) (by assumption) ?_ ?_
      rotate_left
      · intro w hSw; (try dsimp only at hSw); first | (go_simp; done) | (go_simp; with_reducible rfl)
      try simp only [Act.put, List.getElem_toArray, List.getElem_cons_zero, List.getElem_cons_succ, List.setIfInBounds_toArray, List.set_cons_zero, List.set_cons_succ]
      refine wpAnyH_tk (i := 10) (v := ?_) (LN := #[true, true, true, true, true, true, false, true, true, true, true, false, false, false, false, false, false, false, false, false, false, false, false, false, false, false, false, false, false, false, false, false, false, false, false, false, false, false, false, false, false, false, false, false]) rfl (by kernel_rfl) (by kernel_rfl) (by kernel_rfl) (fun _ _ _ h => h) (by kernel_rfl) (by rfl) (by assumption) ?_ ?_
      rotate_left
      · intro w hSw; (try dsimp only at hSw); first | (go_simp; done) | (go_simp; with_reducible rfl)
      try simp only [Act.put, List.getElem_toArray, List.getElem_cons_zero, List.getElem_cons_succ, List.setIfInBounds_toArray, List.set_cons_zero, List.set_cons_succ]
      refine wpAnyH_tk (i := 11) (v := ?_) (LN := #[true, true, true, true, true, true, false, true, true, true, true, true, false, false, false, false, false, false, false, false, false, false, false, false, false, false, false, false, false, false, false, false, false, false, false, false, false, false, false, false, false, false, false, false]) rfl (by kernel_rfl) (by kernel_rfl) (by kernel_rfl) (fun _ _ _ h => h) (by kernel_rfl) (by rfl) (by assumption) ?_ ?_
      rotate_left
      · intro w hSw; (try dsimp only at hSw); first | (go_simp; done) | (go_simp; with_reducible rfl)
      try simp only [Act.put, List.getElem_toArray, List.getElem_cons_zero, List.getElem_cons_succ, List.setIfInBounds_toArray, List.set_cons_zero, List.set_cons_succ]
      refine wpAnyH_tk (i := 12) (v := ?_) (LN := #[true, true, true, true, true, true, false, true, true, true, true, true, true, false, false, false, false, false, false, false, false, false, false, false, false, false, false, false, false, false, false, false, false, false, false, false, false, false, false, false, false, false, false, false]) rfl (by kernel_rfl) (by kernel_rfl) (by kernel_rfl) (fun _ _ _ h => h) (by kernel_rfl) (by rfl) (by assumption) ?_ ?_
      rotate_left
      · intro w hSw; (try dsimp only at hSw); first | (go_simp; done) | (go_simp; with_reducible rfl)
      try simp only [Act.put, List.getElem_toArray, List.getElem_cons_zero, List.getElem_cons_succ, List.setIfInBounds_toArray, List.set_cons_zero, List.set_cons_succ]
      refine wpAnyH_tk (i := 13) (v := ?_) (LN := #[true, true, true, true, true, true, false, true, true, true, true, true, true, true, false, false, false, false, false, false, false, false, false, false, false, false, false, false, false, false, false, false, false, false, false, false, false, false, false, false, false, false, false, false]) rfl (by kernel_rfl) (by kernel_rfl) (by kernel_rfl) (fun _ _ _ h => h) (by kernel_rfl) (by rfl) (by assumption) ?_ ?_
      rotate_left
      · intro w hSw; (try dsimp only at hSw); first | (go_simp; done) | (go_simp; with_reducible rfl)
      try simp only [Act.put, List.getElem_toArray, List.getElem_cons_zero, List.getElem_cons_succ, List.setIfInBounds_toArray, List.set_cons_zero, List.set_cons_succ]
      refine wpAnyH_tk (i := 14) (v := ?_) (LN := #[true, true, true, true, true, true, false, true, true, true, true, true, true, true, true, false, false, false, false, false, false, false, false, false, false, false, false, false, false, false, false, false, false, false, false, false, false, false, false, false, false, false, false, false]) rfl (by kernel_rfl) (by kernel_rfl) (by kernel_rfl) (fun _ _ _ h => h) (by kernel_rfl) (by rfl) (by assumption) ?_ ?_
      rotate_left
      · intro w hSw; (try dsimp only at hSw); first | (go_simp; done) | (go_simp; with_reducible rfl)
      try simp only [Act.put, List.getElem_toArray, List.getElem_cons_zero, List.getElem_cons_succ, List.setIfInBounds_toArray, List.set_cons_zero, List.set_cons_succ]
      refine wpAnyH_tk (i := 15) (v := ?_) (LN := #[true, true, true, true, true, true, false, true, true, true, true, true, true, true, true, true, false, false, false, false, false, false, false, false, false, false, false, false, false, false, false, false, false, false, false, false, false, false, false, false, false, false, false, false]) rfl (by kernel_rfl) (by kernel_rfl) (by kernel_rfl) (fun _ _ _ h => h) (by kernel_rfl) (by rfl) (by assumption) ?_ ?_
      rotate_left
      · intro w hSw; (try dsimp only at hSw); first | (go_simp; done) | (go_simp; with_reducible rfl)
      try simp only [Act.put, List.getElem_toArray, List.getElem_cons_zero, List.getElem_cons_succ, List.setIfInBounds_toArray, List.set_cons_zero, List.set_cons_succ]
      refine wpAnyH_tk (i := 16) (v := ?_) (LN := #[true, true, true, true, true, true, false, true, true, true, true, true, true, true, true, true, true, false, false, false, false, false, false, false, false, false, false, false, false, false, false, false, false, false, false, false, false, false, false, false, false, false, false, false]) rfl (by kernel_rfl) (by kernel_rfl) (by kernel_rfl) (fun _ _ _ h => h) (by kernel_rfl) (by rfl) (by assumption) ?_ ?_
      rotate_left
      · intro w hSw; (try dsimp only at hSw); first | (go_simp; done) | (go_simp; with_reducible rfl)
      try simp only [Act.put, List.getElem_toArray, List.getElem_cons_zero, List.getElem_cons_succ, List.setIfInBounds_toArray, List.set_cons_zero, List.set_cons_succ]
      refine wpAnyH_one (i := 6) (LN := #[true, true, true, true, true, true, true, true, true, true, true, true, true, true, true, true, true, false, false, false, false, false, false, false, false, false, false, false, false, false, false, false, false, false, false, false, false, false, false, false, false, false, false, false]) (by kernel_rfl) rfl (by kernel_rfl) ?_
      intro K hK
      go_simp
      go_at_call 16
      refine (left_any (S4.sel [2])).mono ?_
      rintro e w5 ⟨rfl, S5⟩
      go_wp2_with fail
      refine hK.out _ _ ⟨(S5.cell 3 rfl 0 : _), (S5.cell 3 rfl 2 : _), (S5.cell 1 rfl 1 : _), (S5.cell 1 rfl 6 : _), (S5.cell 1 rfl 7 : _)⟩ ?_
      clear hK K hHeld
      intro hHeld
      try simp only [Act.put, List.getElem_toArray, List.getElem_cons_zero, List.getElem_cons_succ, List.setIfInBounds_toArray, List.set_cons_zero, List.set_cons_succ]
      refine wpAnyH_tk (i := 17) (v := ?_) (LN := #[true, true, true, true, true, true, true, true, true, true, true, true, true, true, true, true, true, true, false, false, false, false, false, false, false, false, false, false, false, false, false, false, false, false, false, false, false, false, false, false, false, false, false, false]) rfl (by kernel_rfl) (by kernel_rfl) (by kernel_rfl) (fun _ _ _ h => h) (by kernel_rfl) (by rfl) (by assumption) ?_ ?_
      rotate_left
      · intro w hSw; (try dsimp only at hSw); first | (go_simp; done) | (go_simp; with_reducible rfl)
      try simp only [Act.put, List.getElem_toArray, List.getElem_cons_zero, List.getElem_cons_succ, List.setIfInBounds_toArray, List.set_cons_zero, List.set_cons_succ]
      refine wpAnyH_tk (i := 18) (v := ?_) (LN := #[true, true, true, true, true, true, true, true, true, true, true, true, true, true, true, true, true, true, true, false, false, false, false, false, false, false, false, false, false, false, false, false, false, false, false, false, false, false, false, false, false, false, false, false]) rfl (by kernel_rfl) (by kernel_rfl) (by kernel_rfl) (fun _ _ _ h => h) (by kernel_rfl) (by rfl) (by assumption) ?_ ?_
      rotate_left
      · intro w hSw; (try dsimp only at hSw); first | (go_simp; done) | (go_simp; with_reducible rfl)
      try simp only [Act.put, List.getElem_toArray, List.getElem_cons_zero, List.getElem_cons_succ, List.setIfInBounds_toArray, List.set_cons_zero, List.set_cons_succ]
      refine wpAnyH_tk (i := 19) (v := ?_) (LN := #[true, true, true, true, true, true, true, true, true, true, true, true, true, true, true, true, true, true, true, true, false, false, false, false, false, false, false, false, false, false, false, false, false, false, false, false, false, false, false, false, false, false, false, false]) rfl (by kernel_rfl) (by kernel_rfl) (by kernel_rfl) (fun _ _ _ h => h) (by kernel_rfl) (by rfl) (by assumption) ?_ ?_
      rotate_left
      · intro w hSw; (try dsimp only at hSw); first | (go_simp; done) | (go_simp; with_reducible rfl)
      try simp only [Act.put, List.getElem_toArray, List.getElem_cons_zero, List.getElem_cons_succ, List.setIfInBounds_toArray, List.set_cons_zero, List.set_cons_succ]
      refine wpAnyH_tk (i := 20) (v := ?_) (LN := #[true, true, true, true, true, true, true, true, true, true, true, true, true, true, true, true, true, true, true, true, true, false, false, false, false, false, false, false, false, false, false, false, false, false, false, false, false, false, false, false, false, false, false, false]) rfl (by kernel_rfl) (by kernel_rfl) (by kernel_rfl) (fun _ _ _ h => h) (by kernel_rfl) (by rfl) (by assumption) ?_ ?_
      rotate_left
      · intro w hSw; (try dsimp only at hSw); first | (go_simp; done) | (go_simp; with_reducible rfl)
      try simp only [Act.put, List.getElem_toArray, List.getElem_cons_zero, List.getElem_cons_succ, List.setIfInBounds_toArray, List.set_cons_zero, List.set_cons_succ]
      refine wpAnyH_tk (i := 21) (v := ?_) (LN := #[true, true, true, true, true, true, true, true, true, true, true, true, true, true, true, true, true, true, true, true, true, true, false, false, false, false, false, false, false, false, false, false, false, false, false, false, false, false, false, false, false, false, false, false]) rfl (by kernel_rfl) (by kernel_rfl) (by kernel_rfl) (fun _ _ _ h => h) (by kernel_rfl) (by rfl) (by assumption) ?_ ?_
      rotate_left
      · intro w hSw; (try dsimp only at hSw); first | (go_simp; done) | (go_simp; with_reducible rfl)
      try simp only [Act.put, List.getElem_toArray, List.getElem_cons_zero, List.getElem_cons_succ, List.setIfInBounds_toArray, List.set_cons_zero, List.set_cons_succ]
      refine wpAnyH_tk (i := 22) (v := ?_) (LN := #[true, true, true, true, true, true, true, true, true, true, true, true, true, true, true, true, true, true, true, true, true, true, true, false, false, false, false, false, false, false, false, false, false, false, false, false, false, false, false, false, false, false, false, false]) rfl (by kernel_rfl) (by kernel_rfl) (by kernel_rfl) (fun _ _ _ h => h) (by kernel_rfl) (by rfl) (by assumption) ?_ ?_
      rotate_left
      · intro w hSw; (try dsimp only at hSw); first | (go_simp; done) | (go_simp; with_reducible rfl)
      try simp only [Act.put, List.getElem_toArray, List.getElem_cons_zero, List.getElem_cons_succ, List.setIfInBounds_toArray, List.set_cons_zero, List.set_cons_succ]
      refine wpAnyH_tk (i := 23) (v := ?_) (LN := #[true, true, true, true, true, true, true, true, true, true, true, true, true, true, true, true, true, true, true, true, true, true, true, true, false, false, false, false, false, false, false, false, false, false, false, false, false, false, false, false, false, false, false, false]) rfl (by kernel_rfl) (by kernel_rfl) (by kernel_rfl) (fun _ _ _ h => h) (by kernel_rfl) (by rfl) (by assumption) ?_ ?_
      rotate_left
      · intro w hSw; (try dsimp only at hSw); first | (go_simp; done) | (go_simp; with_reducible rfl)
      try simp only [Act.put, List.getElem_toArray, List.getElem_cons_zero, List.getElem_cons_succ, List.setIfInBounds_toArray, List.set_cons_zero, List.set_cons_succ]
      refine wpAnyH_tk (i := 24) (v := ?_) (LN := #[true, true, true, true, true, true, true, true, true, true, true, true, true, true, true, true, true, true, true, true, true, true, true, true, true, false, false, false, false, false, false, false, false, false, false, false, false, false, false, false, false, false, false, false]) rfl (by kernel_rfl) (by kernel_rfl) (by kernel_rfl) (fun _ _ _ h => h) (by kernel_rfl) (by rfl) (by assumption) ?_ ?_
      rotate_left
      · intro w hSw; (try dsimp only at hSw); first | (go_simp; done) | (go_simp; with_reducible rfl)
      try simp only [Act.put, List.getElem_toArray, List.getElem_cons_zero, List.getElem_cons_succ, List.setIfInBounds_toArray, List.set_cons_zero, List.set_cons_succ]
      refine wpAnyH_tk (i := 25) (v := ?_) (LN := #[true, true, true, true, true, true, true, true, true, true, true, true, true, true, true, true, true, true, true, true, true, true, true, true, true, true, false, false, false, false, false, false, false, false, false, false, false, false, false, false, false, false, false, false]) rfl (by kernel_rfl) (by kernel_rfl) (by kernel_rfl) (fun _ _ _ h => h) (by kernel_rfl) (by rfl) (by assumption) ?_ ?_
      rotate_left
      · intro w hSw; (try dsimp only at hSw); first | (go_simp; done) | (go_simp; with_reducible rfl)
      try simp only [Act.put, List.getElem_toArray, List.getElem_cons_zero, List.getElem_cons_succ, List.setIfInBounds_toArray, List.set_cons_zero, List.set_cons_succ]
      refine wpAnyH_tk (i := 26) (v := ?_) (LN := #[true, true, true, true, true, true, true, true, true, true, true, true, true, true, true, true, true, true, true, true, true, true, true, true, true, true, true, false, false, false, false, false, false, false, false, false, false, false, false, false, false, false, false, false]) rfl (by kernel_rfl) (by kernel_rfl) (by kernel_rfl) (fun _ _ _ h => h) (by kernel_rfl) (by rfl) (by assumption) ?_ ?_
      rotate_left
      · intro w hSw; (try dsimp only at hSw); first | (go_simp; done) | (go_simp; with_reducible rfl)
      try simp only [Act.put, List.getElem_toArray, List.getElem_cons_zero, List.getElem_cons_succ, List.setIfInBounds_toArray, List.set_cons_zero, List.set_cons_succ]
      refine wpAnyH_tk (i := 27) (v := ?_) (LN := #[true, true, true, true, true, true, true, true, true, true, true, true, true, true, true, true, true, true, true, true, true, true, true, true, true, true, true, true, false, false, false, false, false, false, false, false, false, false, false, false, false, false, false, false]) rfl (by kernel_rfl) (by kernel_rfl) (by kernel_rfl) (fun _ _ _ h => h) (by kernel_rfl) (by rfl) (by assumption) ?_ ?_
      rotate_left
      · intro w hSw; (try dsimp only at hSw); first | (go_simp; done) | (go_simp; with_reducible rfl)
      try simp only [Act.put, List.getElem_toArray, List.getElem_cons_zero, List.getElem_cons_succ, List.setIfInBounds_toArray, List.set_cons_zero, List.set_cons_succ]
      refine wpAnyH_tk (i := 28) (v := ?_) (LN := #[true, true, true, true, true, true, true, true, true, true, true, true, true, true, true, true, true, true, true, true, true, true, true, true, true, true, true, true, true, false, false, false, false, false, false, false, false, false, false, false, false, false, false, false]) rfl (by kernel_rfl) (by kernel_rfl) (by kernel_rfl) (fun _ _ _ h => h) (by kernel_rfl) (by rfl) (by assumption) ?_ ?_
      rotate_left
      · intro w hSw; (try dsimp only at hSw); first | (go_simp; done) | (go_simp; with_reducible rfl)
      try simp only [Act.put, List.getElem_toArray, List.getElem_cons_zero, List.getElem_cons_succ, List.setIfInBounds_toArray, List.set_cons_zero, List.set_cons_succ]
      refine wpAnyH_tk (i := 29) (v := ?_) (LN := #[true, true, true, true, true, true, true, true, true, true, true, true, true, true, true, true, true, true, true, true, true, true, true, true, true, true, true, true, true, true, false, false, false, false, false, false, false, false, false, false, false, false, false, false]) rfl (by kernel_rfl) (by kernel_rfl) (by kernel_rfl) (fun _ _ _ h => h) (by kernel_rfl) (by rfl) (by assumption) ?_ ?_
      rotate_left
      · intro w hSw; (try dsimp only at hSw); first | (go_simp; done) | (go_simp; with_reducible rfl)
      try simp only [Act.put, List.getElem_toArray, List.getElem_cons_zero, List.getElem_cons_succ, List.setIfInBounds_toArray, List.set_cons_zero, List.set_cons_succ]
      refine wpAnyH_tk (i := 30) (v := ?_) (LN := #[true, true, true, true, true, true, true, true, true, true, true, true, true, true, true, true, true, true, true, true, true, true, true, true, true, true, true, true, true, true, true, false, false, false, false, false, false, false, false, false, false, false, false, false]) rfl (by kernel_rfl) (by kernel_rfl) (by kernel_rfl) (fun _ _ _ h => h) (by kernel_rfl) (by rfl) (by assumption) ?_ ?_
      rotate_left
      · intro w hSw; (try dsimp only at hSw); first | (go_simp; done) | (go_simp; with_reducible rfl)
      try simp only [Act.put, List.getElem_toArray, List.getElem_cons_zero, List.getElem_cons_succ, List.setIfInBounds_toArray, List.set_cons_zero, List.set_cons_succ]
      refine wpAnyH_tk (i := 31) (v := ?_) (LN := #[true, true, true, true, true, true, true, true, true, true, true, true, true, true, true, true, true, true, true, true, true, true, true, true, true, true, true, true, true, true, true, true, false, false, false, false, false, false, false, false, false, false, false, false]) rfl (by kernel_rfl) (by kernel_rfl) (by kernel_rfl) (fun _ _ _ h => h) (by kernel_rfl) (by rfl) (by assumption) ?_ ?_
      rotate_left
      · intro w hSw; (try dsimp only at hSw); first | (go_simp; done) | (go_simp; with_reducible rfl)
      try simp only [Act.put, List.getElem_toArray, List.getElem_cons_zero, List.getElem_cons_succ, List.setIfInBounds_toArray, List.set_cons_zero, List.set_cons_succ]
      refine wpAnyH_tk (i := 32) (v := ?_) (LN := #[true, true, true, true, true, true, true, true, true, true, true, true, true, true, true, true, true, true, true, true, true, true, true, true, true, true, true, true, true, true, true, true, true, false, false, false, false, false, false, false, false, false, false, false]) rfl (by kernel_rfl) (by kernel_rfl) (by kernel_rfl) (fun _ _ _ h => h) (by kernel_rfl) (by rfl) (by assumption) ?_ ?_
      rotate_left
      · intro w hSw; (try dsimp only at hSw); first | (go_simp; done) | (go_simp; with_reducible rfl)
      try simp only [Act.put, List.getElem_toArray, List.getElem_cons_zero, List.getElem_cons_succ, List.setIfInBounds_toArray, List.set_cons_zero, List.set_cons_succ]
      refine wpAnyH_tk (i := 33) (v := ?_) (LN := #[true, true, true, true, true, true, true, true, true, true, true, true, true, true, true, true, true, true, true, true, true, true, true, true, true, true, true, true, true, true, true, true, true, true, false, false, false, false, false, false, false, false, false, false]) rfl (by kernel_rfl) (by kernel_rfl) (by kernel_rfl) (fun _ _ _ h => h) (by kernel_rfl) (by rfl) (by assumption) ?_ ?_
      rotate_left
      · intro w hSw; (try dsimp only at hSw); first | (go_simp; done) | (go_simp; with_reducible rfl)
      try simp only [Act.put, List.getElem_toArray, List.getElem_cons_zero, List.getElem_cons_succ, List.setIfInBounds_toArray, List.set_cons_zero, List.set_cons_succ]
      refine wpAnyH_tk (i := 34) (v := ?_) (LN := #[true, true, true, true, true, true, true, true, true, true, true, true, true, true, true, true, true, true, true, true, true, true, true, true, true, true, true, true, true, true, true, true, true, true, true, false, false, false, false, false, false, false, false, false]) rfl (by kernel_rfl) (by kernel_rfl) (by kernel_rfl) (fun _ _ _ h => h) (by kernel_rfl) (by rfl) (by assumption) ?_ ?_
      rotate_left
      · intro w hSw; (try dsimp only at hSw); first | (go_simp; done) | (go_simp; with_reducible rfl)
      try simp only [Act.put, List.getElem_toArray, List.getElem_cons_zero, List.getElem_cons_succ, List.setIfInBounds_toArray, List.set_cons_zero, List.set_cons_succ]
      refine wpAnyH_tk (i := 35) (v := ?_) (LN := #[true, true, true, true, true, true, true, true, true, true, true, true, true, true, true, true, true, true, true, true, true, true, true, true, true, true, true, true, true, true, true, true, true, true, true, true, false, false, false, false, false, false, false, false]) rfl (by kernel_rfl) (by kernel_rfl) (by kernel_rfl) (fun _ _ _ h => h) (by kernel_rfl) (by rfl) (by assumption) ?_ ?_
      rotate_left
      · intro w hSw; (try dsimp only at hSw); first | (go_simp; done) | (go_simp; with_reducible rfl)
      try simp only [Act.put, List.getElem_toArray, List.getElem_cons_zero, List.getElem_cons_succ, List.setIfInBounds_toArray, List.set_cons_zero, List.set_cons_succ]
      refine wpAnyH_tk (i := 36) (v := ?_) (LN := #[true, true, true, true, true, true, true, true, true, true, true, true, true, true, true, true, true, true, true, true, true, true, true, true, true, true, true, true, true, true, true, true, true, true, true, true, true, false, false, false, false, false, false, false]) rfl (by kernel_rfl) (by kernel_rfl) (by kernel_rfl) (fun _ _ _ h => h) (by kernel_rfl) (by rfl) (by assumption) ?_ ?_
      rotate_left
      · intro w hSw; (try dsimp only at hSw); first | (go_simp; done) | (go_simp; with_reducible rfl)
      try simp only [Act.put, List.getElem_toArray, List.getElem_cons_zero, List.getElem_cons_succ, List.setIfInBounds_toArray, List.set_cons_zero, List.set_cons_succ]
      refine wpAnyH_tk (i := 37) (v := ?_) (LN := #[true, true, true, true, true, true, true, true, true, true, true, true, true, true, true, true, true, true, true, true, true, true, true, true, true, true, true, true, true, true, true, true, true, true, true, true, true, true, false, false, false, false, false, false]) rfl (by kernel_rfl) (by kernel_rfl) (by kernel_rfl) (fun _ _ _ h => h) (by kernel_rfl) (by rfl) (by assumption) ?_ ?_
      rotate_left
      · intro w hSw; (try dsimp only at hSw); first | (go_simp; done) | (go_simp; with_reducible rfl)
      try simp only [Act.put, List.getElem_toArray, List.getElem_cons_zero, List.getElem_cons_succ, List.setIfInBounds_toArray, List.set_cons_zero, List.set_cons_succ]
      refine wpAnyH_tk (i := 38) (v := ?_) (LN := #[true, true, true, true, true, true, true, true, true, true, true, true, true, true, true, true, true, true, true, true, true, true, true, true, true, true, true, true, true, true, true, true, true, true, true, true, true, true, true, false, false, false, false, false]) rfl (by kernel_rfl) (by kernel_rfl) (by kernel_rfl) (fun _ _ _ h => h) (by kernel_rfl) (by rfl) (by assumption) ?_ ?_
      rotate_left
      · intro w hSw; (try dsimp only at hSw); first | (go_simp; done) | (go_simp; with_reducible rfl)
      try simp only [Act.put, List.getElem_toArray, List.getElem_cons_zero, List.getElem_cons_succ, List.setIfInBounds_toArray, List.set_cons_zero, List.set_cons_succ]
      refine wpAnyH_tk (i := 39) (v := ?_) (LN := #[true, true, true, true, true, true, true, true, true, true, true, true, true, true, true, true, true, true, true, true, true, true, true, true, true, true, true, true, true, true, true, true, true, true, true, true, true, true, true, true, false, false, false, false]) rfl (by kernel_rfl) (by kernel_rfl) (by kernel_rfl) (fun _ _ _ h => h) (by kernel_rfl) (by rfl) (by assumption) ?_ ?_
      rotate_left
      · intro w hSw; (try dsimp only at hSw); first | (go_simp; done) | (go_simp; with_reducible rfl)
      try simp only [Act.put, List.getElem_toArray, List.getElem_cons_zero, List.getElem_cons_succ, List.setIfInBounds_toArray, List.set_cons_zero, List.set_cons_succ]
      refine wpAnyH_tk (i := 40) (v := ?_) (LN := #[true, true, true, true, true, true, true, true, true, true, true, true, true, true, true, true, true, true, true, true, true, true, true, true, true, true, true, true, true, true, true, true, true, true, true, true, true, true, true, true, true, false, false, false]) rfl (by kernel_rfl) (by kernel_rfl) (by kernel_rfl) (fun _ _ _ h => h) (by kernel_rfl) (by rfl) (by assumption) ?_ ?_
      rotate_left
      · intro w hSw; (try dsimp only at hSw); first | (go_simp; done) | (go_simp; with_reducible rfl)
      try simp only [Act.put, List.getElem_toArray, List.getElem_cons_zero, List.getElem_cons_succ, List.setIfInBounds_toArray, List.set_cons_zero, List.set_cons_succ]
      refine wpAnyH_tk (i := 41) (v := ?_) (LN := #[true, true, true, true, true, true, true, true, true, true, true, true, true, true, true, true, true, true, true, true, true, true, true, true, true, true, true, true, true, true, true, true, true, true, true, true, true, true, true, true, true, true, false, false]) rfl (by kernel_rfl) (by kernel_rfl) (by kernel_rfl) (fun _ _ _ h => h) (by kernel_rfl) (by rfl) (by assumption) ?_ ?_
      rotate_left
      · intro w hSw; (try dsimp only at hSw); first | (go_simp; done) | (go_simp; with_reducible rfl)
      try simp only [Act.put, List.getElem_toArray, List.getElem_cons_zero, List.getElem_cons_succ, List.setIfInBounds_toArray, List.set_cons_zero, List.set_cons_succ]
      refine wpAnyH_tk (i := 42) (v := ?_) (LN := #[true, true, true, true, true, true, true, true, true, true, true, true, true, true, true, true, true, true, true, true, true, true, true, true, true, true, true, true, true, true, true, true, true, true, true, true, true, true, true, true, true, true, true, false]) rfl (by kernel_rfl) (by kernel_rfl) (by kernel_rfl) (fun _ _ _ h => h) (by kernel_rfl) (by rfl) (by assumption) ?_ ?_
      rotate_left
      · intro w hSw; (try dsimp only at hSw); first | (go_simp; done) | (go_simp; with_reducible rfl)
      try simp only [Act.put, List.getElem_toArray, List.getElem_cons_zero, List.getElem_cons_succ, List.setIfInBounds_toArray, List.set_cons_zero, List.set_cons_succ]
      refine wpAnyH_tk (i := 43) (v := ?_) (LN := #[true, true, true, true, true, true, true, true, true, true, true, true, true, true, true, true, true, true, true, true, true, true, true, true, true, true, true, true, true, true, true, true, true, true, true, true, true, true, true, true, true, true, true, true]) rfl (by kernel_rfl) (by kernel_rfl) (by kernel_rfl) (fun _ _ _ h => h) (by kernel_rfl) (by rfl) (by assumption) ?_ ?_
      rotate_left
      · intro w hSw; (try dsimp only at hSw); first | (go_simp; done) | (go_simp; with_reducible rfl)
      try simp only [Act.put, List.getElem_toArray, List.getElem_cons_zero, List.getElem_cons_succ, List.setIfInBounds_toArray, List.set_cons_zero, List.set_cons_succ]
      refine ⟨by kernel_rfl, ?_⟩
      try simp only [Act.put, List.getElem_toArray, List.getElem_cons_zero, List.getElem_cons_succ, List.setIfInBounds_toArray, List.set_cons_zero, List.set_cons_succ]
      have S6 := DL_open.2 ⟨ra, rc, S5.sel [1, 1]⟩
      have S7 := BW2_open.2 ⟨wa, wc, S6.sel [2, 2]⟩
      clear hnn hss hvv S4 S5 S6
      go_wp2_with fail
      exact ⟨⟨0 + 1, by omega, by go_num, S7.sel [0, 1, 1, 0]⟩, by simp [intOf]⟩
    · have hcs := S1.cell 0 rfl 1
      simp only [List.getElem?_cons_zero, List.getElem?_cons_succ] at hcs
      have hnn : ((sb.rows.length : Int) != (sb.rows.length : Int)) = false := by simp
      have hss : (sb.sent != sb.sent) = false := by simp
      have hvv : (sb.vain != sb.vain) = false := by simp
      go_upto_region 5 with (first
        | (go_at_call 20; refine (stats_any (S1.sel [3])).mono ?_; rintro e w2 ⟨rfl, S2⟩))
      obtain ⟨ra, rc, S3⟩ := DL_open.1 (S2.sel [5])
      clear hcs S2
      refine wp_region_drawn (N := 44) (LN := #[false, false, false, false, false, false, false, false, false, false, false, false, false, false, false, false, false, false, false, false, false, false, false, false, false, false, false, false, false, false, false, false, false, false, false, false, false, false, false, false, false, false, false, false]) (by kernel_rfl) (by kernel_rfl) (by kernel_rfl) ?_
      have S4 := S3.drew
      generalize w2.drew = w4 at S4 ⊢
      clear S3
      refine wpAny_held (fun w' => w'.cell? ⟨x, 1, none⟩ = some (.pointer (some ⟨p1, 0, none⟩)) ∧ w'.cell? ⟨x, 3, none⟩ = some (.pointer (some ⟨q1, 0, none⟩)) ∧ w'.cell? ⟨q1, 1, none⟩ = some (.slice ra sb.rows.length rc) ∧ w'.cell? ⟨q1, 6, none⟩ = some (.int .i64 sb.sent) ∧ w'.cell? ⟨q1, 7, none⟩ = some (.int .i64 sb.vain)) ⟨(S4.cell 3 rfl 1 : _), (S4.cell 3 rfl 3 : _), (S4.cell 0 rfl 1 : _), (S4.cell 0 rfl 6 : _), (S4.cell 0 rfl 7 : _)⟩ (fun hHeld => ?_)
      refine wpAnyH_tk (i := 0) (v := ?_) (LN := #[true, false, false, false, false, false, false, false, false, false, false, false, false, false, false, false, false, false, false, false, false, false, false, false, false, false, false, false, false, false, false, false, false, false, false, false, false, false, false, false, false, false, false, false]) rfl (by kernel_rfl) (by kernel_rfl) (by kernel_rfl) (fun _ _ _ h => h) (by kernel_rfl) (by rfl) (by assumption) ?_ ?_
      rotate_left
      · intro w hSw; (try dsimp only at hSw); first | (go_simp; done) | (go_simp; with_reducible rfl)
      try simp only [Act.put, List.getElem_toArray, List.getElem_cons_zero, List.getElem_cons_succ, List.setIfInBounds_toArray, List.set_cons_zero, List.set_cons_succ]
      refine wpAnyH_tk (i := 1) (v := ?_) (LN := #[true, true, false, false, false, false, false, false, false, false, false, false, false, false, false, false, false, false, false, false, false, false, false, false, false, false, false, false, false, false, false, false, false, false, false, false, false, false, false, false, false, false, false, false]) rfl (by kernel_rfl) (by kernel_rfl) (by kernel_rfl) (fun _ _ _ h => h) (by kernel_rfl) (by rfl) (by assumption) ?_ ?_
      rotate_left
      · intro w hSw; (try dsimp only at hSw); first | (go_simp; done) | (go_simp; with_reducible rfl)
      try simp only [Act.put, List.getElem_toArray, List.getElem_cons_zero, List.getElem_cons_succ, List.setIfInBounds_toArray, List.set_cons_zero, List.set_cons_succ]
      refine wpAnyH_tk (i := 2) (v := ?_) (LN := #[true, true, true, false, false, false, false, false, false, false, false, false, false, false, false, false, false, false, false, false, false, false, false, false, false, false, false, false, false, false, false, false, false, false, false, false, false, false, false, false, false, false, false, false]) rfl (by kernel_rfl) (by kernel_rfl) (by kernel_rfl) (fun _ _ _ h => h) (by kernel_rfl) (by rfl) (by assumption) ?_ ?_
      rotate_left
      · intro w hSw; (try dsimp only at hSw); first | (go_simp; done) | (go_simp; with_reducible rfl)
      try simp only [Act.put, List.getElem_toArray, List.getElem_cons_zero, List.getElem_cons_succ, List.setIfInBounds_toArray, List.set_cons_zero, List.set_cons_succ]
      refine wpAnyH_tk (i := 3) (v := ?_) (LN := #[true, true, true, true, false, false, false, false, false, false, false, false, false, false, false, false, false, false, false, false, false, false, false, false, false, false, false, false, false, false, false, false, false, false, false, false, false, false, false, false, false, false, false, false]) rfl (by kernel_rfl) (by kernel_rfl) (by kernel_rfl) (fun _ _ _ h => h) (by kernel_rfl) (by rfl) (by assumption) ?_ ?_
      rotate_left
      · intro w hSw; (try dsimp only at hSw); first | (go_simp; done) | (go_simp; with_reducible rfl)
      try simp only [Act.put, List.getElem_toArray, List.getElem_cons_zero, List.getElem_cons_succ, List.setIfInBounds_toArray, List.set_cons_zero, List.set_cons_succ]
      refine wpAnyH_tk (i := 4) (v := ?_) (LN := #[true, true, true, true, true, false, false, false, false, false, false, false, false, false, false, false, false, false, false, false, false, false, false, false, false, false, false, false, false, false, false, false, false, false, false, false, false, false, false, false, false, false, false, false]) rfl (by kernel_rfl) (by kernel_rfl) (by kernel_rfl) (fun _ _ _ h => h) (by kernel_rfl) (by rfl) (by assumption) ?_ ?_
      rotate_left
      · intro w hSw; (try dsimp only at hSw); first | (go_simp; done) | (go_simp; with_reducible rfl)
      try simp only [Act.put, List.getElem_toArray, List.getElem_cons_zero, List.getElem_cons_succ, List.setIfInBounds_toArray, List.set_cons_zero, List.set_cons_succ]
      refine wpAnyH_tk (i := 5) (v := ?_) (LN := #[true, true, true, true, true, true, false, false, false, false, false, false, false, false, false, false, false, false, false, false, false, false, false, false, false, false, false, false, false, false, false, false, false, false, false, false, false, false, false, false, false, false, false, false]) rfl (by kernel_rfl) (by kernel_rfl) (by kernel_rfl) (fun _ _ _ h => h) (by kernel_rfl) (by rfl) (by assumption) ?_ ?_
      rotate_left
      · intro w hSw; (try dsimp only at hSw); first | (go_simp; done) | (go_simp; with_reducible rfl)
      try simp only [Act.put, List.getElem_toArray, List.getElem_cons_zero, List.getElem_cons_succ, List.setIfInBounds_toArray, List.set_cons_zero, List.set_cons_succ]
      refine wpAnyH_tk (i := 7) (v := ?_) (LN := #[true, true, true, true, true, true, false, true, false, false, false, false, false, false, false, false, false, false, false, false, false, false, false, false, false, false, false, false, false, false, false, false, false, false, false, false, false, false, false, false, false, false, false, false]) rfl (by kernel_rfl) (by kernel_rfl) (by kernel_rfl) (fun _ _ _ h => h) (by kernel_rfl) (by rfl) (by assumption) ?_ ?_
      rotate_left
      · intro w hSw; (try dsimp only at hSw); first | (go_simp; done) | (go_simp; with_reducible rfl)
      try simp only [Act.put, List.getElem_toArray, List.getElem_cons_zero, List.getElem_cons_succ, List.setIfInBounds_toArray, List.set_cons_zero, List.set_cons_succ]
      refine wpAnyH_tk (i := 8) (v := ?_) (LN := #[true, true, true, true, true, true, false, true, true, false, false, false, false, false, false, false, false, false, false, false, false, false, false, false, false, false, false, false, false, false, false, false, false, false, false, false, false, false, false, false, false, false, false, false]) rfl (by kernel_rfl) (by kernel_rfl) (by kernel_rfl) (fun _ _ _ h => h) (by kernel_rfl) (by rfl) (by assumption) ?_ ?_
      rotate_left
      · intro w hSw; (try dsimp only at hSw); first | (go_simp; done) | (go_simp; with_reducible rfl)
      try simp only [Act.put, List.getElem_toArray, List.getElem_cons_zero, List.getElem_cons_succ, List.setIfInBounds_toArray, List.set_cons_zero, List.set_cons_succ]
      refine wpAnyH_tk (i := 9) (v := ?_) (LN := #[true, true, true, true, true, true, false, true, true, true, false, false, false, false, false, false, false, false, false, false, false, false, false, false, false, false, false, false, false, false, false, false, false, false, false, false, false, false, false, false, false, false, false, false]) rfl (by kernel_rfl) (by kernel_rfl) (by kernel_rfl) (fun _ _ _ h => h) (by kernel_rfl) (by rfl) (by assumption) ?_ ?_
      rotate_left
      · intro w hSw; (try dsimp only at hSw); first | (go_simp; done) | (go_simp; with_reducible rfl)
      try simp only [Act.put, List.getElem_toArray, List.getElem_cons_zero, List.getElem_cons_succ, List.setIfInBounds_toArray, List.set_cons_zero, List.set_cons_succ]
      refine wpAnyH_tk (i := 10) (v := ?_) (LN := #[true, true, true, true, true, true, false, true, true, true, true, false, false, false, false, false, false, false, false, false, false, false, false, false, false, false, false, false, false, false, false, false, false, false, false, false, false, false, false, false, false, false, false, false]) rfl (by kernel_rfl) (by kernel_rfl) (by kernel_rfl) (fun _ _ _ h => h) (by kernel_rfl) (by rfl) (by assumption) ?_ ?_
      rotate_left
      · intro w hSw; (try dsimp only at hSw); first | (go_simp; done) | (go_simp; with_reducible rfl)
      try simp only [Act.put, List.getElem_toArray, List.getElem_cons_zero, List.getElem_cons_succ, List.setIfInBounds_toArray, List.set_cons_zero, List.set_cons_succ]
      refine wpAnyH_tk (i := 11) (v := ?_) (LN := #[true, true, true, true, true, true, false, true, true, true, true, true, false, false, false, false, false, false, false, false, false, false, false, false, false, false, false, false, false, false, false, false, false, false, false, false, false, false, false, false, false, false, false, false]) rfl (by kernel_rfl) (by kernel_rfl) (by kernel_rfl) (fun _ _ _ h => h) (by kernel_rfl) (by rfl) (by assumption) ?_ ?_
      rotate_left
      · intro w hSw; (try dsimp only at hSw); first | (go_simp; done) | (go_simp; with_reducible rfl)
      try simp only [Act.put, List.getElem_toArray, List.getElem_cons_zero, List.getElem_cons_succ, List.setIfInBounds_toArray, List.set_cons_zero, List.set_cons_succ]
      refine wpAnyH_tk (i := 12) (v := ?_) (LN := #[true, true, true, true, true, true, false, true, true, true, true, true, true, false, false, false, false, false, false, false, false, false, false, false, false, false, false, false, false, false, false, false, false, false, false, false, false, false, false, false, false, false, false, false]) rfl (by kernel_rfl) (by kernel_rfl) (by kernel_rfl) (fun _ _ _ h => h) (by kernel_rfl) (by rfl) (by assumption) ?_ ?_
      rotate_left
      · intro w hSw; (try dsimp only at hSw); first | (go_simp; done) | (go_simp; with_reducible rfl)
      try simp only [Act.put, List.getElem_toArray, List.getElem_cons_zero, List.getElem_cons_succ, List.setIfInBounds_toArray, List.set_cons_zero, List.set_cons_succ]
      refine wpAnyH_tk (i := 13) (v := ?_) (LN := #[true, true, true, true, true, true, false, true, true, true, true, true, true, true, false, false, false, false, false, false, false, false, false, false, false, false, false, false, false, false, false, false, false, false, false, false, false, false, false, false, false, false, false, false]) rfl (by kernel_rfl) (by kernel_rfl) (by kernel_rfl) (fun _ _ _ h => h) (by kernel_rfl) (by rfl) (by assumption) ?_ ?_
      rotate_left
      · intro w hSw; (try dsimp only at hSw); first | (go_simp; done) | (go_simp; with_reducible rfl)
      try simp only [Act.put, List.getElem_toArray, List.getElem_cons_zero, List.getElem_cons_succ, List.setIfInBounds_toArray, List.set_cons_zero, List.set_cons_succ]
      refine wpAnyH_tk (i := 14) (v := ?_) (LN := #[true, true, true, true, true, true, false, true, true, true, true, true, true, true, true, false, false, false, false, false, false, false, false, false, false, false, false, false, false, false, false, false, false, false, false, false, false, false, false, false, false, false, false, false]) rfl (by kernel_rfl) (by kernel_rfl) (by kernel_rfl) (fun _ _ _ h => h) (by kernel_rfl) (by rfl) (by assumption) ?_ ?_
      rotate_left
      · intro w hSw; (try dsimp only at hSw); first | (go_simp; done) | (go_simp; with_reducible rfl)
      try simp only [Act.put, List.getElem_toArray, List.getElem_cons_zero, List.getElem_cons_succ, List.setIfInBounds_toArray, List.set_cons_zero, List.set_cons_succ]
      refine wpAnyH_tk (i := 15) (v := ?_) (LN := #[true, true, true, true, true, true, false, true, true, true, true, true, true, true, true, true, false, false, false, false, false, false, false, false, false, false, false, false, false, false, false, false, false, false, false, false, false, false, false, false, false, false, false, false]) rfl (by kernel_rfl) (by kernel_rfl) (by kernel_rfl) (fun _ _ _ h => h) (by kernel_rfl) (by rfl) (by assumption) ?_ ?_
      rotate_left
      · intro w hSw; (try dsimp only at hSw); first | (go_simp; done) | (go_simp; with_reducible rfl)
      try simp only [Act.put, List.getElem_toArray, List.getElem_cons_zero, List.getElem_cons_succ, List.setIfInBounds_toArray, List.set_cons_zero, List.set_cons_succ]
      refine wpAnyH_tk (i := 16) (v := ?_) (LN := #[true, true, true, true, true, true, false, true, true, true, true, true, true, true, true, true, true, false, false, false, false, false, false, false, false, false, false, false, false, false, false, false, false, false, false, false, false, false, false, false, false, false, false, false]) rfl (by kernel_rfl) (by kernel_rfl) (by kernel_rfl) (fun _ _ _ h => h) (by kernel_rfl) (by rfl) (by assumption) ?_ ?_
      rotate_left
      · intro w hSw; (try dsimp only at hSw); first | (go_simp; done) | (go_simp; with_reducible rfl)
      try simp only [Act.put, List.getElem_toArray, List.getElem_cons_zero, List.getElem_cons_succ, List.setIfInBounds_toArray, List.set_cons_zero, List.set_cons_succ]
      refine wpAnyH_one (i := 6) (LN := #[true, true, true, true, true, true, true, true, true, true, true, true, true, true, true, true, true, false, false, false, false, false, false, false, false, false, false, false, false, false, false, false, false, false, false, false, false, false, false, false, false, false, false, false]) (by kernel_rfl) rfl (by kernel_rfl) ?_
      intro K hK
      go_simp
      go_at_call 16
      refine (left_any (S4.sel [2])).mono ?_
      rintro e w5 ⟨rfl, S5⟩
      go_wp2_with fail
      refine hK.out _ _ ⟨(S5.cell 3 rfl 1 : _), (S5.cell 3 rfl 3 : _), (S5.cell 1 rfl 1 : _), (S5.cell 1 rfl 6 : _), (S5.cell 1 rfl 7 : _)⟩ ?_
      clear hK K hHeld
      intro hHeld
      try simp only [Act.put, List.getElem_toArray, List.getElem_cons_zero, List.getElem_cons_succ, List.setIfInBounds_toArray, List.set_cons_zero, List.set_cons_succ]
      refine wpAnyH_tk (i := 17) (v := ?_) (LN := #[true, true, true, true, true, true, true, true, true, true, true, true, true, true, true, true, true, true, false, false, false, false, false, false, false, false, false, false, false, false, false, false, false, false, false, false, false, false, false, false, false, false, false, false]) rfl (by kernel_rfl) (by kernel_rfl) (by kernel_rfl) (fun _ _ _ h => h) (by kernel_rfl) (by rfl) (by assumption) ?_ ?_
      rotate_left
      · intro w hSw; (try dsimp only at hSw); first | (go_simp; done) | (go_simp; with_reducible rfl)
      try simp only [Act.put, List.getElem_toArray, List.getElem_cons_zero, List.getElem_cons_succ, List.setIfInBounds_toArray, List.set_cons_zero, List.set_cons_succ]
      refine wpAnyH_tk (i := 18) (v := ?_) (LN := #[true, true, true, true, true, true, true, true, true, true, true, true, true, true, true, true, true, true, true, false, false, false, false, false, false, false, false, false, false, false, false, false, false, false, false, false, false, false, false, false, false, false, false, false]) rfl (by kernel_rfl) (by kernel_rfl) (by kernel_rfl) (fun _ _ _ h => h) (by kernel_rfl) (by rfl) (by assumption) ?_ ?_
      rotate_left
      · intro w hSw; (try dsimp only at hSw); first | (go_simp; done) | (go_simp; with_reducible rfl)
      try simp only [Act.put, List.getElem_toArray, List.getElem_cons_zero, List.getElem_cons_succ, List.setIfInBounds_toArray, List.set_cons_zero, List.set_cons_succ]
      refine wpAnyH_tk (i := 19) (v := ?_) (LN := #[true, true, true, true, true, true, true, true, true, true, true, true, true, true, true, true, true, true, true, true, false, false, false, false, false, false, false, false, false, false, false, false, false, false, false, false, false, false, false, false, false, false, false, false]) rfl (by kernel_rfl) (by kernel_rfl) (by kernel_rfl) (fun _ _ _ h => h) (by kernel_rfl) (by rfl) (by assumption) ?_ ?_
      rotate_left
      · intro w hSw; (try dsimp only at hSw); first | (go_simp; done) | (go_simp; with_reducible rfl)
      try simp only [Act.put, List.getElem_toArray, List.getElem_cons_zero, List.getElem_cons_succ, List.setIfInBounds_toArray, List.set_cons_zero, List.set_cons_succ]
      refine wpAnyH_tk (i := 20) (v := ?_) (LN := #[true, true, true, true, true, true, true, true, true, true, true, true, true, true, true, true, true, true, true, true, true, false, false, false, false, false, false, false, false, false, false, false, false, false, false, false, false, false, false, false, false, false, false, false]) rfl (by kernel_rfl) (by kernel_rfl) (by kernel_rfl) (fun _ _ _ h => h) (by kernel_rfl) (by rfl) (by assumption) ?_ ?_
      rotate_left
      · intro w hSw; (try dsimp only at hSw); first | (go_simp; done) | (go_simp; with_reducible rfl)
      try simp only [Act.put, List.getElem_toArray, List.getElem_cons_zero, List.getElem_cons_succ, List.setIfInBounds_toArray, List.set_cons_zero, List.set_cons_succ]
      refine wpAnyH_tk (i := 21) (v := ?_) (LN := #[true, true, true, true, true, true, true, true, true, true, true, true, true, true, true, true, true, true, true, true, true, true, false, false, false, false, false, false, false, false, false, false, false, false, false, false, false, false, false, false, false, false, false, false]) rfl (by kernel_rfl) (by kernel_rfl) (by kernel_rfl) (fun _ _ _ h => h) (by kernel_rfl) (by rfl) (by assumption) ?_ ?_
      rotate_left
      · intro w hSw; (try dsimp only at hSw); first | (go_simp; done) | (go_simp; with_reducible rfl)
      try simp only [Act.put, List.getElem_toArray, List.getElem_cons_zero, List.getElem_cons_succ, List.setIfInBounds_toArray, List.set_cons_zero, List.set_cons_succ]
      refine wpAnyH_tk (i := 22) (v := ?_) (LN := #[true, true, true, true, true, true, true, true, true, true, true, true, true, true, true, true, true, true, true, true, true, true, true, false, false, false, false, false, false, false, false, false, false, false, false, false, false, false, false, false, false, false, false, false]) rfl (by kernel_rfl) (by kernel_rfl) (by kernel_rfl) (fun _ _ _ h => h) (by kernel_rfl) (by rfl) (by assumption) ?_ ?_
      rotate_left
      · intro w hSw; (try dsimp only at hSw); first | (go_simp; done) | (go_simp; with_reducible rfl)
      try simp only [Act.put, List.getElem_toArray, List.getElem_cons_zero, List.getElem_cons_succ, List.setIfInBounds_toArray, List.set_cons_zero, List.set_cons_succ]
      refine wpAnyH_tk (i := 23) (v := ?_) (LN := #[true, true, true, true, true, true, true, true, true, true, true, true, true, true, true, true, true, true, true, true, true, true, true, true, false, false, false, false, false, false, false, false, false, false, false, false, false, false, false, false, false, false, false, false]) rfl (by kernel_rfl) (by kernel_rfl) (by kernel_rfl) (fun _ _ _ h => h) (by kernel_rfl) (by rfl) (by assumption) ?_ ?_
      rotate_left
      · intro w hSw; (try dsimp only at hSw); first | (go_simp; done) | (go_simp; with_reducible rfl)
      try simp only [Act.put, List.getElem_toArray, List.getElem_cons_zero, List.getElem_cons_succ, List.setIfInBounds_toArray, List.set_cons_zero, List.set_cons_succ]
      refine wpAnyH_tk (i := 24) (v := ?_) (LN := #[true, true, true, true, true, true, true, true, true, true, true, true, true, true, true, true, true, true, true, true, true, true, true, true, true, false, false, false, false, false, false, false, false, false, false, false, false, false, false, false, false, false, false, false]) rfl (by kernel_rfl) (by kernel_rfl) (by kernel_rfl) (fun _ _ _ h => h) (by kernel_rfl) (by rfl) (by assumption) ?_ ?_
      rotate_left
      · intro w hSw; (try dsimp only at hSw); first | (go_simp; done) | (go_simp; with_reducible rfl)
      try simp only [Act.put, List.getElem_toArray, List.getElem_cons_zero, List.getElem_cons_succ, List.setIfInBounds_toArray, List.set_cons_zero, List.set_cons_succ]
      refine wpAnyH_tk (i := 25) (v := ?_) (LN := #[true, true, true, true, true, true, true, true, true, true, true, true, true, true, true, true, true, true, true, true, true, true, true, true, true, true, false, false, false, false, false, false, false, false, false, false, false, false, false, false, false, false, false, false]) rfl (by kernel_rfl) (by kernel_rfl) (by kernel_rfl) (fun _ _ _ h => h) (by kernel_rfl) (by rfl) (by assumption) ?_ ?_
      rotate_left
      · intro w hSw; (try dsimp only at hSw); first | (go_simp; done) | (go_simp; with_reducible rfl)
      try simp only [Act.put, List.getElem_toArray, List.getElem_cons_zero, List.getElem_cons_succ, List.setIfInBounds_toArray, List.set_cons_zero, List.set_cons_succ]
      refine wpAnyH_tk (i := 26) (v := ?_) (LN := #[true, true, true, true, true, true, true, true, true, true, true, true, true, true, true, true, true, true, true, true, true, true, true, true, true, true, true, false, false, false, false, false, false, false, false, false, false, false, false, false, false, false, false, false]) rfl (by kernel_rfl) (by kernel_rfl) (by kernel_rfl) (fun _ _ _ h => h) (by kernel_rfl) (by rfl) (by assumption) ?_ ?_
      rotate_left
      · intro w hSw; (try dsimp only at hSw); first | (go_simp; done) | (go_simp; with_reducible rfl)
      try simp only [Act.put, List.getElem_toArray, List.getElem_cons_zero, List.getElem_cons_succ, List.setIfInBounds_toArray, List.set_cons_zero, List.set_cons_succ]
      refine wpAnyH_tk (i := 27) (v := ?_) (LN := #[true, true, true, true, true, true, true, true, true, true, true, true, true, true, true, true, true, true, true, true, true, true, true, true, true, true, true, true, false, false, false, false, false, false, false, false, false, false, false, false, false, false, false, false]) rfl (by kernel_rfl) (by kernel_rfl) (by kernel_rfl) (fun _ _ _ h => h) (by kernel_rfl) (by rfl) (by assumption) ?_ ?_
      rotate_left
      · intro w hSw; (try dsimp only at hSw); first | (go_simp; done) | (go_simp; with_reducible rfl)
      try simp only [Act.put, List.getElem_toArray, List.getElem_cons_zero, List.getElem_cons_succ, List.setIfInBounds_toArray, List.set_cons_zero, List.set_cons_succ]
      refine wpAnyH_tk (i := 28) (v := ?_) (LN := #[true, true, true, true, true, true, true, true, true, true, true, true, true, true, true, true, true, true, true, true, true, true, true, true, true, true, true, true, true, false, false, false, false, false, false, false, false, false, false, false, false, false, false, false]) rfl (by kernel_rfl) (by kernel_rfl) (by kernel_rfl) (fun _ _ _ h => h) (by kernel_rfl) (by rfl) (by assumption) ?_ ?_
      rotate_left
      · intro w hSw; (try dsimp only at hSw); first | (go_simp; done) | (go_simp; with_reducible rfl)
      try simp only [Act.put, List.getElem_toArray, List.getElem_cons_zero, List.getElem_cons_succ, List.setIfInBounds_toArray, List.set_cons_zero, List.set_cons_succ]
      refine wpAnyH_tk (i := 29) (v := ?_) (LN := #[true, true, true, true, true, true, true, true, true, true, true, true, true, true, true, true, true, true, true, true, true, true, true, true, true, true, true, true, true, true, false, false, false, false, false, false, false, false, false, false, false, false, false, false]) rfl (by kernel_rfl) (by kernel_rfl) (by kernel_rfl) (fun _ _ _ h => h) (by kernel_rfl) (by rfl) (by assumption) ?_ ?_
      rotate_left
      · intro w hSw; (try dsimp only at hSw); first | (go_simp; done) | (go_simp; with_reducible rfl)
      try simp only [Act.put, List.getElem_toArray, List.getElem_cons_zero, List.getElem_cons_succ, List.setIfInBounds_toArray, List.set_cons_zero, List.set_cons_succ]
      refine wpAnyH_tk (i := 30) (v := ?_) (LN := #[true, true, true, true, true, true, true, true, true, true, true, true, true, true, true, true, true, true, true, true, true, true, true, true, true, true, true, true, true, true, true, false, false, false, false, false, false, false, false, false, false, false, false, false]) rfl (by kernel_rfl) (by kernel_rfl) (by kernel_rfl) (fun _ _ _ h => h) (by kernel_rfl) (by rfl) (by assumption) ?_ ?_
      rotate_left
      · intro w hSw; (try dsimp only at hSw); first | (go_simp; done) | (go_simp; with_reducible rfl)
      try simp only [Act.put, List.getElem_toArray, List.getElem_cons_zero, List.getElem_cons_succ, List.setIfInBounds_toArray, List.set_cons_zero, List.set_cons_succ]
      refine wpAnyH_tk (i := 31) (v := ?_) (LN := #[true, true, true, true, true, true, true, true, true, true, true, true, true, true, true, true, true, true, true, true, true, true, true, true, true, true, true, true, true, true, true, true, false, false, false, false, false, false, false, false, false, false, false, false]) rfl (by kernel_rfl) (by kernel_rfl) (by kernel_rfl) (fun _ _ _ h => h) (by kernel_rfl) (by rfl) (by assumption) ?_ ?_
      rotate_left
      · intro w hSw; (try dsimp only at hSw); first | (go_simp; done) | (go_simp; with_reducible rfl)
      try simp only [Act.put, List.getElem_toArray, List.getElem_cons_zero, List.getElem_cons_succ, List.setIfInBounds_toArray, List.set_cons_zero, List.set_cons_succ]
      refine wpAnyH_tk (i := 32) (v := ?_) (LN := #[true, true, true, true, true, true, true, true, true, true, true, true, true, true, true, true, true, true, true, true, true, true, true, true, true, true, true, true, true, true, true, true, true, false, false, false, false, false, false, false, false, false, false, false]) rfl (by kernel_rfl) (by kernel_rfl) (by kernel_rfl) (fun _ _ _ h => h) (by kernel_rfl) (by rfl) (by assumption) ?_ ?_
      rotate_left
      · intro w hSw; (try dsimp only at hSw); first | (go_simp; done) | (go_simp; with_reducible rfl)
      try simp only [Act.put, List.getElem_toArray, List.getElem_cons_zero, List.getElem_cons_succ, List.setIfInBounds_toArray, List.set_cons_zero, List.set_cons_succ]
      refine wpAnyH_tk (i := 33) (v := ?_) (LN := #[true, true, true, true, true, true, true, true, true, true, true, true, true, true, true, true, true, true, true, true, true, true, true, true, true, true, true, true, true, true, true, true, true, true, false, false, false, false, false, false, false, false, false, false]) rfl (by kernel_rfl) (by kernel_rfl) (by kernel_rfl) (fun _ _ _ h => h) (by kernel_rfl) (by rfl) (by assumption) ?_ ?_
      rotate_left
      · intro w hSw; (try dsimp only at hSw); first | (go_simp; done) | (go_simp; with_reducible rfl)
      try simp only [Act.put, List.getElem_toArray, List.getElem_cons_zero, List.getElem_cons_succ, List.setIfInBounds_toArray, List.set_cons_zero, List.set_cons_succ]
      refine wpAnyH_tk (i := 34) (v := ?_) (LN := #[true, true, true, true, true, true, true, true, true, true, true, true, true, true, true, true, true, true, true, true, true, true, true, true, true, true, true, true, true, true, true, true, true, true, true, false, false, false, false, false, false, false, false, false]) rfl (by kernel_rfl) (by kernel_rfl) (by kernel_rfl) (fun _ _ _ h => h) (by kernel_rfl) (by rfl) (by assumption) ?_ ?_
      rotate_left
      · intro w hSw; (try dsimp only at hSw); first | (go_simp; done) | (go_simp; with_reducible rfl)
      try simp only [Act.put, List.getElem_toArray, List.getElem_cons_zero, List.getElem_cons_succ, List.setIfInBounds_toArray, List.set_cons_zero, List.set_cons_succ]
      refine wpAnyH_tk (i := 35) (v := ?_) (LN := #[true, true, true, true, true, true, true, true, true, true, true, true, true, true, true, true, true, true, true, true, true, true, true, true, true, true, true, true, true, true, true, true, true, true, true, true, false, false, false, false, false, false, false, false]) rfl (by kernel_rfl) (by kernel_rfl) (by kernel_rfl) (fun _ _ _ h => h) (by kernel_rfl) (by rfl) (by assumption) ?_ ?_
      rotate_left
      · intro w hSw; (try dsimp only at hSw); first | (go_simp; done) | (go_simp; with_reducible rfl)
      try simp only [Act.put, List.getElem_toArray, List.getElem_cons_zero, List.getElem_cons_succ, List.setIfInBounds_toArray, List.set_cons_zero, List.set_cons_succ]
      refine wpAnyH_tk (i := 36) (v := ?_) (LN := #[true, true, true, true, true, true, true, true, true, true, true, true, true, true, true, true, true, true, true, true, true, true, true, true, true, true, true, true, true, true, true, true, true, true, true, true, true, false, false, false, false, false, false, false]) rfl (by kernel_rfl) (by kernel_rfl) (by kernel_rfl) (fun _ _ _ h => h) (by kernel_rfl) (by rfl) (by assumption) ?_ ?_
      rotate_left
      · intro w hSw; (try dsimp only at hSw); first | (go_simp; done) | (go_simp; with_reducible rfl)
      try simp only [Act.put, List.getElem_toArray, List.getElem_cons_zero, List.getElem_cons_succ, List.setIfInBounds_toArray, List.set_cons_zero, List.set_cons_succ]
      refine wpAnyH_tk (i := 37) (v := ?_) (LN := #[true, true, true, true, true, true, true, true, true, true, true, true, true, true, true, true, true, true, true, true, true, true, true, true, true, true, true, true, true, true, true, true, true, true, true, true, true, true, false, false, false, false, false, false]) rfl (by kernel_rfl) (by kernel_rfl) (by kernel_rfl) (fun _ _ _ h => h) (by kernel_rfl) (by rfl) (by assumption) ?_ ?_
      rotate_left
      · intro w hSw; (try dsimp only at hSw); first | (go_simp; done) | (go_simp; with_reducible rfl)
      try simp only [Act.put, List.getElem_toArray, List.getElem_cons_zero, List.getElem_cons_succ, List.setIfInBounds_toArray, List.set_cons_zero, List.set_cons_succ]
      refine wpAnyH_tk (i := 38) (v := ?_) (LN := #[true, true, true, true, true, true, true, true, true, true, true, true, true, true, true, true, true, true, true, true, true, true, true, true, true, true, true, true, true, true, true, true, true, true, true, true, true, true, true, false, false, false, false, false]) rfl (by kernel_rfl) (by kernel_rfl) (by kernel_rfl) (fun _ _ _ h => h) (by kernel_rfl) (by rfl) (by assumption) ?_ ?_
      rotate_left
      · intro w hSw; (try dsimp only at hSw); first | (go_simp; done) | (go_simp; with_reducible rfl)
      try simp only [Act.put, List.getElem_toArray, List.getElem_cons_zero, List.getElem_cons_succ, List.setIfInBounds_toArray, List.set_cons_zero, List.set_cons_succ]
      refine wpAnyH_tk (i := 39) (v := ?_) (LN := #[true, true, true, true, true, true, true, true, true, true, true, true, true, true, true, true, true, true, true, true, true, true, true, true, true, true, true, true, true, true, true, true, true, true, true, true, true, true, true, true, false, false, false, false]) rfl (by kernel_rfl) (by kernel_rfl) (by kernel_rfl) (fun _ _ _ h => h) (by kernel_rfl) (by rfl) (by assumption) ?_ ?_
      rotate_left
      · intro w hSw; (try dsimp only at hSw); first | (go_simp; done) | (go_simp; with_reducible rfl)
      try simp only [Act.put, List.getElem_toArray, List.getElem_cons_zero, List.getElem_cons_succ, List.setIfInBounds_toArray, List.set_cons_zero, List.set_cons_succ]
      refine wpAnyH_tk (i := 40) (v := ?_) (LN := #[true, true, true, true, true, true, true, true, true, true, true, true, true, true, true, true, true, true, true, true, true, true, true, true, true, true, true, true, true, true, true, true, true, true, true, true, true, true, true, true, true, false, false, false]) rfl (by kernel_rfl) (by kernel_rfl) (by kernel_rfl) (fun _ _ _ h => h) (by kernel_rfl) (by rfl) (by assumption) ?_ ?_
      rotate_left
      · intro w hSw; (try dsimp only at hSw); first | (go_simp; done) | (go_simp; with_reducible rfl)
      try simp only [Act.put, List.getElem_toArray, List.getElem_cons_zero, List.getElem_cons_succ, List.setIfInBounds_toArray, List.set_cons_zero, List.set_cons_succ]
      refine wpAnyH_tk (i := 41) (v := ?_) (LN := #[true, true, true, true, true, true, true, true, true, true, true, true, true, true, true, true, true, true, true, true, true, true, true, true, true, true, true, true, true, true, true, true, true, true, true, true, true, true, true, true, true, true, false, false]) rfl (by kernel_rfl) (by kernel_rfl) (by kernel_rfl) (fun _ _ _ h => h) (by kernel_rfl) (by rfl) (by assumption) ?_ ?_
      rotate_left
      · intro w hSw; (try dsimp only at hSw); first | (go_simp; done) | (go_simp; with_reducible rfl)
      try simp only [Act.put, List.getElem_toArray, List.getElem_cons_zero, List.getElem_cons_succ, List.setIfInBounds_toArray, List.set_cons_zero, List.set_cons_succ]
      refine wpAnyH_tk (i := 42) (v := ?_) (LN := #[true, true, true, true, true, true, true, true, true, true, true, true, true, true, true, true, true, true, true, true, true, true, true, true, true, true, true, true, true, true, true, true, true, true, true, true, true, true, true, true, true, true, true, false]) rfl (by kernel_rfl) (by kernel_rfl) (by kernel_rfl) (fun _ _ _ h => h) (by kernel_rfl) (by rfl) (by assumption) ?_ ?_
      rotate_left
      · intro w hSw; (try dsimp only at hSw); first | (go_simp; done) | (go_simp; with_reducible rfl)
      try simp only [Act.put, List.getElem_toArray, List.getElem_cons_zero, List.getElem_cons_succ, List.setIfInBounds_toArray, List.set_cons_zero, List.set_cons_succ]
      refine wpAnyH_tk (i := 43) (v := ?_) (LN := #[true, true, true, true, true, true, true, true, true, true, true, true, true, true, true, true, true, true, true, true, true, true, true, true, true, true, true, true, true, true, true, true, true, true, true, true, true, true, true, true, true, true, true, true]) rfl (by kernel_rfl) (by kernel_rfl) (by kernel_rfl) (fun _ _ _ h => h) (by kernel_rfl) (by rfl) (by assumption) ?_ ?_
      rotate_left
      · intro w hSw; (try dsimp only at hSw); first | (go_simp; done) | (go_simp; with_reducible rfl)
      try simp only [Act.put, List.getElem_toArray, List.getElem_cons_zero, List.getElem_cons_succ, List.setIfInBounds_toArray, List.set_cons_zero, List.set_cons_succ]
      refine ⟨by kernel_rfl, ?_⟩
      try simp only [Act.put, List.getElem_toArray, List.getElem_cons_zero, List.getElem_cons_succ, List.setIfInBounds_toArray, List.set_cons_zero, List.set_cons_succ]
      have S6 := DL_open.2 ⟨ra, rc, S5.sel [1, 1]⟩
      have S7 := BW2_open.2 ⟨wa, wc, S6.sel [2, 2]⟩
      clear hnn hss hvv S4 S5 S6
      go_wp2_with fail
      exact ⟨⟨1 + 1, by omega, by go_num, S7.sel [0, 2, 1, 1]⟩, by simp [intOf]⟩
    · go_wp2_with fail
      go_ret
      exact ⟨rfl, S0⟩
end Go.Proofs.Ytdgalljalcediaa
end

section
namespace Go.Proofs.Ytdgalljalcediaa
open Go.RowKit Go.Sep Go.Oct
set_option linter.unusedSimpArgs false

abbrev StepT := Int × Int × Int × Int × Sl Int
abbrev StepK : Kd StepT := Kd.pair (Kd.int .i64) (Kd.pair (Kd.int .i64) (Kd.pair (Kd.int .i64) (Kd.pair (Kd.int .i64) (Kd.sl (Kd.int .u8)))))
def stepC (r : StepT) : List Value := [.int .i64 r.1, .int .i64 r.2.1, .int .i64 r.2.2.1, .int .i64 r.2.2.2.1, .slice r.2.2.2.2.ao r.2.2.2.2.len r.2.2.2.2.cap]
structure SGood (w : World) (r : StepT) : Prop where
  n : I64 r.2.2.1
  k : I64 r.2.2.2.1
  row : BRow w r.2.2.2.2
theorem step_flat {w : World} : ∀ {els : List (List Value)} {xs : List StepT}, Each (StepK.R w) els xs → els.flatten = (xs.map stepC).flatten ∧ ∀ r ∈ xs, SGood w r
  | [], [], _ => ⟨rfl, fun r h => by simp at h⟩
  | [], x :: r, h => by have := h.1; simp at this
  | c :: s, [], h => by have := h.1; simp at this
  | c :: s, x :: r, h => by
    have h0 := h.2 0 c x rfl rfl
    obtain ⟨_, _, rfl, ⟨rfl, _⟩, _, _, rfl, ⟨rfl, _⟩, _, _, rfl, ⟨rfl, w2⟩, _, _, rfl, ⟨rfl, w3⟩, hs⟩ := h0
    have hr := bytes_rd hs
    obtain ⟨rfl, _⟩ := hs
    obtain ⟨h1, h2⟩ := step_flat (els := s) (xs := r) ⟨by have := h.1; simpa using this, fun i c x hc hx => h.2 (i + 1) c x hc hx⟩
    refine ⟨by rw [List.flatten_cons, h1]; rfl, fun y hy => ?_⟩
    rcases List.mem_cons.1 hy with rfl | hy
    · exact ⟨i64_of_wf w2, i64_of_wf w3, hr⟩
    · exact h2 y hy
theorem step_at : ∀ {xs : List StepT} {i : Nat} {r : StepT} {j : Nat}, xs[i]? = some r → j < 5 → ((xs.map stepC).flatten)[i * 5 + j]? = (stepC r)[j]?
  | [], i, r, j, h, _ => by simp at h
  | x :: xs, 0, r, j, h, hj => by
    cases h
    rw [List.map_cons, List.flatten_cons, List.getElem?_append_left (by show _ < 5; omega), Nat.zero_mul, Nat.zero_add]
  | x :: xs, i + 1, r, j, h, hj => by
    have ih := step_at (xs := xs) (i := i) (r := r) (by simpa using h) hj
    rw [List.map_cons, List.flatten_cons, List.getElem?_append_right (by show 5 ≤ _; omega)]
    rw [show (i + 1) * 5 + j - (stepC x).length = i * 5 + j by show _ - 5 = _; omega]
    exact ih
structure SRows (w : World) (s : Sl StepT) : Prop where
  reach : s.len ≤ 140737488351232
  len : s.xs.length = s.len
  row : ∀ i r, s.xs[i]? = some r → ∃ b off, s.ao = some ⟨b, off, none⟩ ∧ (∀ j, j < 5 → w.cell? ⟨b, off + i * 5 + j, none⟩ = (stepC r)[j]?) ∧ SGood w r
theorem steps_rd {w : World} {s : Sl StepT} {c : List Value} (h : (Kd.sl StepK).R w c s) : SRows w s := by
  obtain ⟨_, h2, h3, h4, h5, h6, h7, h8⟩ := h
  obtain ⟨g1, g2⟩ := step_flat h4
  refine ⟨h8, h2, fun i r hi => ?_⟩
  rw [g1] at h3
  obtain ⟨b, off, ha, -⟩ := h3 (i * 5 + 0) _ (step_at hi (by omega))
  refine ⟨b, off, ha, fun j hj => ?_, g2 r (List.mem_of_getElem? hi)⟩
  have hs : ∃ u, (stepC r)[j]? = some u := ⟨_, List.getElem?_eq_getElem (by show j < 5; exact hj)⟩
  obtain ⟨u, hu⟩ := hs
  rw [hu]
  obtain ⟨b', off', ha', hc⟩ := h3 (i * 5 + j) u (by rw [step_at hi hj, hu])
  rw [ha] at ha'
  cases ha'
  rw [Nat.add_assoc]
  exact hc
theorem SRows.cells {w : World} {s : Sl StepT} (h : SRows w s) {k : Nat} {x : StepT} (hx : s.xs[k]? = some x) : ∃ b off, s.ao = some ⟨b, off, none⟩ ∧ SGood w x ∧ ∀ w', Below w.heap.size w w' → ∀ j, j < 5 → w'.cell? ⟨b, off + k * 5 + j, none⟩ = (stepC x)[j]? := by
  obtain ⟨b, off, ha, hc, hr⟩ := h.row k x hx
  refine ⟨b, off, ha, hr, fun w' hb j hj => ?_⟩
  rw [← hc j hj]
  have h0 := hc 0 (by omega)
  exact World.cell?_of_block (hb.block b (World.block_lt_of_cell? w _ h0))
theorem Try.sizeSt : (Try.prog.info? 66).map (·.size) = some 5 := by kernel_rfl

def LightTo (k : Nat) (xs : List StepT) : Prop := ∀ j r, j < k → j < 200 → xs[j]? = some r → r.2.2.2.2.len ≤ 8000
set_option maxRecDepth 100000 in
set_option maxHeartbeats 6400000 in
theorem heavy_any {w : World} {l : Sl StepT} (hl : SRows w l) :
    Calls Try.prog 24 #[.slice l.ao l.len l.cap] w fun e w' => (e = .returned (.bool true) ∨ (e = .returned (.bool false) ∧ LightTo l.len l.xs)) ∧ w' = w := by
  obtain ⟨ao, ln, cap, els, xs⟩ := l
  have hlen : xs.length = ln := hl.len
  have hlm : ln ≤ 140737488351232 := hl.reach
  have HL := Lib.hid hl
  have HLEN := Lib.hid hlen
  clear hl hlen
  dsimp only
  go_enter Try.func24, Try.ntmps24
  go_wp2_with fail
  go_loopw [3, 4] (fun n i wr => ∃ k t : Nat, k ≤ ln ∧ k ≤ 200 ∧ i = .int .i64 k ∧ n = .int .i64 t ∧ t ≤ 8000 ∧ Hid (LightTo k xs) ∧ wr = w) (fun _ i _ => ln - (intOf i).toNat)
  case atStart => exact ⟨0, 0, by omega, by omega, rfl, rfl, by omega, fun j r hj => by omega, rfl⟩
  case round =>
    obtain ⟨k, t, hk, hk2, rfl, rfl, ht, HT, hwr⟩ := hrel
    have hwr' := hwr.symm
    clear hwr
    subst hwr'
    have t0 : (0 : Int) ≤ (t : Int) := by omega
    have k0 : (0 : Int) ≤ (k : Int) := by omega
    by_cases hlt : k < ln
    · have hd : decide ((k : Int) < (ln : Int)) = true := decide_eq_true (by omega)
      have k1 : (k : Int) < (ln : Int) := by omega
      by_cases h2 : k < 200
      · have hd2 : decide ((k : Int) < 200) = true := decide_eq_true (by omega)
        obtain ⟨r, hr⟩ : ∃ r, xs[k]? = some r := ⟨xs[k]'(by rw [HLEN.out]; exact hlt), List.getElem?_eq_getElem _⟩
        obtain ⟨b, off, hao, hg, hc⟩ := HL.out.cells hr
        dsimp only at hao
        subst hao
        have hc4 : w.cell? ⟨b, off + k * 5 + 4, none⟩ = some (.slice r.2.2.2.2.ao r.2.2.2.2.len r.2.2.2.2.cap) := hc w (Below.refl _ _) 4 (by omega)
        have hrm := hg.row.reach
        have HR := Lib.hid hr
        have hw1 : IntKind.i64.wrap ((t : Int) + 10) = (t : Int) + 10 := by rw [IntKind.wrap_i64]; omega
        have hw2 : IntKind.i64.wrap ((t : Int) + 10 + (r.2.2.2.2.len : Int)) = (t : Int) + 10 + (r.2.2.2.2.len : Int) := by rw [IntKind.wrap_i64]; omega
        have hw3 : IntKind.i64.wrap ((k : Int) + 1) = (k : Int) + 1 := by rw [IntKind.wrap_i64]; omega
        clear hr hc hg
        by_cases h8 : t + 10 + r.2.2.2.2.len ≤ 8000
        · have hd8 : decide ((8000 : Int) < (t : Int) + 10 + (r.2.2.2.2.len : Int)) = false := decide_eq_false (by omega)
          go_wp2_with fail
          refine ⟨⟨k + 1, t + 10 + r.2.2.2.2.len, by omega, by omega, by go_num, by go_num, h8, ?_, by trivial⟩, by simp [intOf]; omega⟩
          intro j y hj hj2 hy
          rcases Nat.lt_or_ge j k with hjk | hjk
          · exact HT.out j y hjk hj2 hy
          · obtain rfl : j = k := by omega
            rw [HR.out] at hy
            cases hy
            omega
        · have hd8 : decide ((8000 : Int) < (t : Int) + 10 + (r.2.2.2.2.len : Int)) = true := decide_eq_true (by omega)
          go_wp2_with fail
          go_ret
          exact ⟨.inl rfl, rfl⟩
      · have hd2 : decide ((k : Int) < 200) = false := decide_eq_false (by omega)
        go_wp2_with fail
        go_ret
        exact ⟨.inr ⟨rfl, fun j r hj hj2 hr => HT.out j r (by omega) hj2 hr⟩, rfl⟩
    · have hd : decide ((k : Int) < (ln : Int)) = false := decide_eq_false (by omega)
      go_wp2_with fail
      go_ret
      exact ⟨.inr ⟨rfl, fun j r hj hj2 hr => HT.out j r (by omega) hj2 hr⟩, rfl⟩

set_option maxRecDepth 100000 in
set_option maxHeartbeats 6400000 in
theorem LinkPlays_walk {w : World} {id : Int} (hid : I64 id) {l : Sl StepT} (hl : SRows w l) :
    Calls Try.prog 9 #[.int .i64 id, .slice l.ao l.len l.cap] w fun e w' => e = .returned (.bool true) ∧ Below w.heap.size w w' := by
  have S0 := Sat.start w
  have HH := Lib.hid (heavy_any hl)
  obtain ⟨ao, ln, cap, els, xs⟩ := l
  have hlen : xs.length = ln := hl.len
  have hlm : ln ≤ 140737488351232 := hl.reach
  have HL := Lib.hid hl
  have HLEN := Lib.hid hlen
  have HID := Lib.hid hid
  clear hl hlen hid
  dsimp only at HH ⊢
  go_enter Try.func9, Try.ntmps9
  go_wp2_with (first
    | (go_at_call 24; refine HH.out.mono ?_; rintro e w1 ⟨hh, hw1⟩; have hw2 := hw1.symm; clear hw1; subst hw2; rcases hh with rfl | ⟨rfl, HLT⟩)
    | (go_at_call 12; refine (known_any S0).mono ?_; rintro e w2 ⟨rfl, S2⟩)
    | (go_at_call 21; refine (start_any S0 id).mono ?_; rintro e w2 ⟨x, p0, p1, q0, q1, rfl, S2⟩))
  · go_ret
    exact ⟨rfl, S2.below⟩
  have S3 : Sat w w2 (BW2 x p0 p1 q0 q1 [] :: PL p0 (LS.new id) :: PL p1 (LS.new id) :: DL q0 (LS.new id) :: DL q1 (LS.new id) :: []) := S2
  clear S2
  have HLT := Lib.hid HLT
  go_loopw [7] (fun i wr => ∃ (k : Nat) (sa sb : LS) (ps : List (Int × List Int)), k ≤ ln ∧ k ≤ 200 ∧ i = .int .i64 k ∧ Hid (PInv (1 + 40 * (k : Int)) (100 * k) sa sb ps) ∧ Sat w wr (BW2 x p0 p1 q0 q1 ps :: PL p0 sa :: PL p1 sb :: DL q0 sa :: DL q1 sb :: [])) (fun i _ => ln - (intOf i).toNat)
  case atStart => exact ⟨0, LS.new id, LS.new id, [], by omega, by omega, rfl, ⟨LS.new_ok HID.out, LS.new_ok HID.out, fun p hp => by simp at hp, by simp⟩, S3⟩
  case round =>
    clear S3
    obtain ⟨k, sa, sb, ps, hk, hk2, rfl, HI, S4⟩ := hrel
    have k0 : (0 : Int) ≤ (k : Int) := by omega
    by_cases hlt : k < ln
    · have hd : decide ((k : Int) < (ln : Int)) = true := decide_eq_true (by omega)
      have k1 : (k : Int) < (ln : Int) := by omega
      by_cases h2 : k < 200
      · have hd2 : decide ((k : Int) < 200) = true := decide_eq_true (by omega)
        obtain ⟨r, hr⟩ : ∃ r, xs[k]? = some r := ⟨xs[k]'(by rw [HLEN.out]; exact hlt), List.getElem?_eq_getElem _⟩
        obtain ⟨b, off, hao, hg, hc⟩ := HL.out.cells hr
        have hlt8 := HLT.out k r hlt h2 hr
        obtain ⟨kd, en, n, ack, ra, rl, rc, rels, rxs⟩ := r
        dsimp only at hao hlt8
        subst hao
        have hw3 : IntKind.i64.wrap ((k : Int) + 1) = (k : Int) + 1 := by rw [IntKind.wrap_i64]; omega
        have HG := Lib.hid hg
        have HC : Hid (∀ j, j < 5 → wr.cell? ⟨b, off + k * 5 + j, none⟩ = ([.int .i64 kd, .int .i64 en, .int .i64 n, .int .i64 ack, .slice ra rl rc] : List Value)[j]?) := fun j hj => hc wr S4.below j hj
        have HD := Lib.hid (does_any S4 HI.out (by omega) (by omega) (kd := kd) (en := en) (n := n) (ack := ack) hg.n hg.k (a := ra) (m := rl) (c := rc) (b := rxs) hg.row.rd hg.row.len hg.row.bytes hg.row.le hg.row.top (by omega))
        clear hr hc hg hlt8
        go_wp2_with (first
          | (refine wpList_load_part rfl 66 _ rfl (n := 5) rfl HC.out rfl Try.underlying66 rfl Try.sizeSt ?_)
          | (go_at_call 25; refine HD.out.mono ?_; unfold Does2; rintro e w5 ⟨rfl, sa2, sb2, ps2, HI2, S5⟩; have HI2 := Lib.hid HI2)
          | (go_at_call 26; refine (stood_any S5).mono ?_; rintro e w6 ⟨rfl, S6⟩))
        exact ⟨⟨k + 1, sa2, sb2, ps2, by omega, by omega, by go_num, HI2.out.mono (by omega) (by omega), S6⟩, by simp [intOf]; omega⟩
      · have hd2 : decide ((k : Int) < 200) = false := decide_eq_false (by omega)
        go_wp2_with (first
          | (go_at_call 12; refine (known_any S4).mono ?_; rintro e w8 ⟨rfl, S8⟩))
        go_ret
        exact ⟨rfl, S8.below⟩
    · have hd : decide ((k : Int) < (ln : Int)) = false := decide_eq_false (by omega)
      go_wp2_with (first
        | (go_at_call 12; refine (known_any S4).mono ?_; rintro e w8 ⟨rfl, S8⟩))
      go_ret
      exact ⟨rfl, S8.below⟩
end Go.Proofs.Ytdgalljalcediaa
end
