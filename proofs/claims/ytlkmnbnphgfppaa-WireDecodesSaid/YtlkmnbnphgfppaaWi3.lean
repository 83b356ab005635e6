/-
  wire: read.
-/
import Derived.Test.YtlkmnbnphgfppaaWiQ
import Derived.Test.YtlkmnbnphgfppaaWi1
import Derived.Test.YtlkmnbnphgfppaaFr4
namespace Go.Proofs.Ytlkmnbnphgfppaa
open Go.RowKit Go.Sep Go.Oct
set_option linter.unusedSimpArgs false

def nis (ao : Option Addr) (n cap : Nat) (xs : List Int) : Asn := slc 3 1 ao n cap (nv xs)
theorem Try.infoI : (Try.prog.info? 3).map (fun i => (i.zero, i.size, i.bytes)) = some (some (.int .i64 0), 1, 8) := by kernel_rfl
theorem Try.sizeQ : (Try.prog.info? 28).map (·.size) = some 4 := by kernel_rfl

/-- what read gives: an error, or the parts -/
def Readen (W0 : World) (L : List Asn) (er : Int) (kind seq : Int) (nums data : List Int) (e : Ending) (w' : World) : Prop :=
  (er ≠ 0 ∧ ∃ x : List Value, x.length = 4 ∧ (∀ u ∈ x, u.oneCell' = true) ∧ e = .returned (.tuple #[.int .u8 0, .agg x.toArray, .int .i64 er]) ∧ Sat W0 w' L) ∨
  (er = 0 ∧ ∃ na nc da dc, e = .returned (.tuple #[.int .u8 kind, .agg #[.int .i64 0, .int .i64 seq, .slice na nums.length nc, .slice da data.length dc], .int .i64 0]) ∧ Sat W0 w' (nis na nums.length nc nums :: sbs da data.length dc data :: L))
def readP (mark : Int) (most : Nat) (b : List Int) : Int :=
  if (openF b).2 ≠ 0 then (openF b).2
  else
    let q := partsOf (openF b).1
    if q.mark ≠ mark ∨ ¬ (0 ≤ q.seq ∧ q.seq ≤ 9007199254740992) ∨ q.many < 0 ∨ 80 < q.many then 3
    else if q.fin ≠ 0 ∨ most < q.data.length then 3 else 0

theorem results_tct_sat {P : Program} {fn : Func} {r p q : Tmp} {ty : TypeId} (h : fn.results = #[.tmp r, .cell p ty, .tmp q]) (tmps : Array Value) {W0 w : World} {L : List Asn} {g : Nat} {cs : List Value} {e : TypeId} {d : TypeDesc} (S : Sat W0 w (blk g cs e :: L))
    {u : Value} (hr : tmps.getD r undef = u) (hp : tmps.getD p undef = .pointer (some ⟨g, 0, none⟩)) (hu : P.underlying ty = some d) (hd : aggKind d = true) (hi : (P.info? ty).map (·.size) = some cs.length) {v : Value} (hv : tmps.getD q undef = v) :
    (results fn tmps).run P w = .ok (.tuple #[u, .agg cs.toArray, v]) w := by
  have hp' : tmps[p]?.getD undef = .pointer (some ⟨g, 0, none⟩) := by simpa using hp
  have hv' : tmps[q]?.getD undef = v := by simpa using hv
  have hr' : tmps[r]?.getD undef = u := by simpa using hr
  have hl := run_loadVar_part (P := P) (w := w) (g := g) (off := 0) (n := cs.length) (cs := cs) (fun j _ => by rw [S.cell 0 rfl, Nat.zero_add]) rfl hu hd hi
  simp [results, h, hp', hv', hr', asAddr, hl]
theorem Sat.whole {W0 w : World} {L : List Asn} {g : Nat} {cs : List Value} {e : TypeId} (S : Sat W0 w (blk g cs e :: L)) (n : Nat) : ∀ j, j < n → w.cell? ⟨g, 0 + j, none⟩ = cs[j]? := by
  intro j _
  rw [S.cell 0 rfl, Nat.zero_add]
theorem decF_bytes {bs : List Int} (h : Bytes bs) : Bytes (decF bs).1 := by
  unfold decF
  repeat' split
  all_goals first
    | exact (h.drop _).take _
    | (intro x hx; exact absurd hx (by simp))
theorem decF_length (bs : List Int) : (decF bs).1.length ≤ bs.length := by
  unfold decF
  repeat' split
  all_goals first
    | exact Nat.zero_le _
    | (rw [List.length_take, List.length_drop]; omega)

set_option maxRecDepth 100000 in
set_option maxHeartbeats 6400000 in
theorem read_any {W0 w : World} {L : List Asn} (S : Sat W0 w L) {a : Option Addr} {m c : Nat} {xs : List Int} (hR : ∀ w', Sat W0 w' L → Rd w' a (bv xs)) (hm : xs.length = m) (hB : Bytes xs) (hmc : m ≤ c) (hb : m ≤ 1000000000) (mark : Int) (most : Nat) (hmo : most ≤ 1000000) :
    Calls Try.prog 28 #[.slice a m c, .int .u8 mark, .int .i64 most] w
      (Readen W0 L (readP mark most xs) (partsOf (openF xs).1).kind (partsOf (openF xs).1).seq (partsOf (openF xs).1).nums (partsOf (openF xs).1).data) := by
  have S1 := S.alloc [.int .i64 0, .int .i64 0, .slice none 0 0, .slice none 0 0] 28
  have HF := Lib.hid (fDecode_any S1 (fun w' h => hR w' h.tail) hm hB hmc hb)
  have hdb := decF_bytes hB
  have hdl := decF_length xs
  have HO : Hid (openF xs = if (decF xs).2.2 = 0 then (if (decF xs).2.1 = (m : Int) then ((decF xs).1, 0) else ([], 3)) else ([], (decF xs).2.2)) := by show _ = _; unfold openF; rw [hm]
  have HRP : Hid (readP mark most xs = if (openF xs).2 ≠ 0 then (openF xs).2
      else if (partsOf (openF xs).1).mark ≠ mark ∨ ¬ (0 ≤ (partsOf (openF xs).1).seq ∧ (partsOf (openF xs).1).seq ≤ 9007199254740992) ∨ (partsOf (openF xs).1).many < 0 ∨ 80 < (partsOf (openF xs).1).many then 3
      else if (partsOf (openF xs).1).fin ≠ 0 ∨ most < (partsOf (openF xs).1).data.length then 3 else 0) := rfl
  generalize readP mark most xs = rp at HRP ⊢
  generalize openF xs = O at HO HRP ⊢
  rw [hm] at hdl
  generalize decF xs = D at HF HO hdb hdl
  obtain ⟨p, d2, d3⟩ := D
  simp only at HO hdb hdl
  clear hR hm hB
  have HX : Hid (∀ {rp : Int} {kind seq : Int} {nums data : List Int} {x : List Value} {w' : World} {L1 : List Asn}, rp ≠ 0 → x.length = 4 → (∀ u ∈ x, u.oneCell' = true) → Sat W0 w' L →
      Readen W0 L rp kind seq nums data (.returned (.tuple #[.int .u8 0, .agg x.toArray, .int .i64 rp])) w') := fun h hx h1 S => .inl ⟨h, _, hx, h1, rfl, S⟩
  by_cases h3 : d3 = 0
  case neg =>
    have hrp : rp = d3 := by rw [HRP.out, HO.out, if_neg h3, if_pos h3]
    have h3' : (d3 != 0) = true := by simpa using h3
    have HRP2 : Hid (d3 = rp) := hrp.symm
    have HNE : Hid (d3 ≠ 0) := h3
    clear hrp HRP HO h3 hdb
    go_enter Try.func28, Try.ntmps28
    go_wp2_with (first
      | (go_at_call 38; refine HF.out.mono ?_; unfold Decoded; rintro e w2 ⟨ao, cap, rfl, S2⟩))
    have S3 := S2.drew
    refine wp_region_drawn (N := 5) (LN := #[false, false, false, false, false]) (by kernel_rfl) (by kernel_rfl) (by kernel_rfl) ?_
    refine wpAny_loc (i := 1) (v := ?_) (LN := #[false, true, false, false, false]) rfl (by kernel_rfl) (by kernel_rfl) (by kernel_rfl) (fun _ _ _ h => h) (by kernel_rfl) (by rfl) ?_ ?_
    rotate_left
    · intro w; first | (go_simp; done) | (go_simp; with_reducible rfl)
    try simp only [Act.put, List.getElem_toArray, List.getElem_cons_zero, List.getElem_cons_succ, List.setIfInBounds_toArray, List.set_cons_zero, List.set_cons_succ]
    refine wpAny_loc (i := 2) (v := ?_) (LN := #[false, true, true, false, false]) rfl (by kernel_rfl) (by kernel_rfl) (by kernel_rfl) (fun _ _ _ h => h) (by kernel_rfl) (by rfl) ?_ ?_
    rotate_left
    · intro w; first | (go_simp; done) | (go_simp; with_reducible rfl)
    try simp only [Act.put, List.getElem_toArray, List.getElem_cons_zero, List.getElem_cons_succ, List.setIfInBounds_toArray, List.set_cons_zero, List.set_cons_succ]
    refine wpAny_one (i := 0) (LN := #[true, true, true, false, false]) (by kernel_rfl) rfl (by kernel_rfl) ?_
    intro K hK
    refine step_load_part rfl 28 _ rfl (n := 4) rfl (Sat.whole (S3.sel [1]) 4) rfl Try.underlying28 rfl Try.sizeQ ?_
    refine hK.out _ _ ?_
    clear hK K
    try simp only [Act.put, List.getElem_toArray, List.getElem_cons_zero, List.getElem_cons_succ, List.setIfInBounds_toArray, List.set_cons_zero, List.set_cons_succ]
    refine wpAny_one (i := 3) (LN := #[true, true, true, true, false]) (by kernel_rfl) rfl (by kernel_rfl) ?_
    intro K hK
    refine step_store_sat (off := 0) (n := 4) rfl 28 _ _ rfl (S3.sel [1]) rfl rfl rfl (by decide) Try.sizeQ (by simp [Value.oneCell']) ?_
    intro w4 S4
    refine hK.out _ _ ?_
    clear hK K
    try simp only [Act.put, List.getElem_toArray, List.getElem_cons_zero, List.getElem_cons_succ, List.setIfInBounds_toArray, List.set_cons_zero, List.set_cons_succ]
    refine wpAny_loc (i := 4) (v := ?_) (LN := #[true, true, true, true, true]) rfl (by kernel_rfl) (by kernel_rfl) (by kernel_rfl) (fun _ _ _ h => h) (by kernel_rfl) (by rfl) ?_ ?_
    rotate_left
    · intro w; first | (go_simp; done) | (go_simp; with_reducible rfl)
    try simp only [Act.put, List.getElem_toArray, List.getElem_cons_zero, List.getElem_cons_succ, List.setIfInBounds_toArray, List.set_cons_zero, List.set_cons_succ]
    refine ⟨by kernel_rfl, ?_⟩
    try simp only [Act.put, List.getElem_toArray, List.getElem_cons_zero, List.getElem_cons_succ, List.setIfInBounds_toArray, List.set_cons_zero, List.set_cons_succ]
    go_wp2_with fail
    rw [← HRP2.out]
    exact bodyPost_ret (results_tct_sat rfl _ S4 rfl rfl Try.underlying28 rfl Try.sizeQ rfl) rfl (.inl ⟨HNE.out, _, rfl, by simp [Value.oneCell'], rfl, S4.tail.tail⟩)
  subst h3
  by_cases h2 : d2 = (m : Int)
  case neg =>
    have hO : O = ([], 3) := by rw [HO.out, if_pos rfl, if_neg h2]
    have hrp : rp = 3 := by rw [HRP.out, hO, if_pos (by simp)]
    have h2' : (d2 != (m : Int)) = true := by simpa using h2
    have HRP2 : Hid (3 = rp) := hrp.symm
    clear hrp HRP HO h2 hdb hO
    go_enter Try.func28, Try.ntmps28
    go_wp2_with (first
      | (go_at_call 38; refine HF.out.mono ?_; unfold Decoded; rintro e w2 ⟨ao, cap, rfl, S2⟩))
    have S3 := S2.drew
    refine wp_region_drawn (N := 4) (LN := #[false, false, false, false]) (by kernel_rfl) (by kernel_rfl) (by kernel_rfl) ?_
    refine wpAny_loc (i := 1) (v := ?_) (LN := #[false, true, false, false]) rfl (by kernel_rfl) (by kernel_rfl) (by kernel_rfl) (fun _ _ _ h => h) (by kernel_rfl) (by rfl) ?_ ?_
    rotate_left
    · intro w; first | (go_simp; done) | (go_simp; with_reducible rfl)
    try simp only [Act.put, List.getElem_toArray, List.getElem_cons_zero, List.getElem_cons_succ, List.setIfInBounds_toArray, List.set_cons_zero, List.set_cons_succ]
    refine wpAny_one (i := 0) (LN := #[true, true, false, false]) (by kernel_rfl) rfl (by kernel_rfl) ?_
    intro K hK
    refine step_load_part rfl 28 _ rfl (n := 4) rfl (Sat.whole (S3.sel [1]) 4) rfl Try.underlying28 rfl Try.sizeQ ?_
    refine hK.out _ _ ?_
    clear hK K
    try simp only [Act.put, List.getElem_toArray, List.getElem_cons_zero, List.getElem_cons_succ, List.setIfInBounds_toArray, List.set_cons_zero, List.set_cons_succ]
    refine wpAny_one (i := 2) (LN := #[true, true, true, false]) (by kernel_rfl) rfl (by kernel_rfl) ?_
    intro K hK
    refine step_store_sat (off := 0) (n := 4) rfl 28 _ _ rfl (S3.sel [1]) rfl rfl rfl (by decide) Try.sizeQ (by simp [Value.oneCell']) ?_
    intro w4 S4
    refine hK.out _ _ ?_
    clear hK K
    try simp only [Act.put, List.getElem_toArray, List.getElem_cons_zero, List.getElem_cons_succ, List.setIfInBounds_toArray, List.set_cons_zero, List.set_cons_succ]
    refine wpAny_loc (i := 3) (v := ?_) (LN := #[true, true, true, true]) rfl (by kernel_rfl) (by kernel_rfl) (by kernel_rfl) (fun _ _ _ h => h) (by kernel_rfl) (by rfl) ?_ ?_
    rotate_left
    · intro w; first | (go_simp; done) | (go_simp; with_reducible rfl)
    try simp only [Act.put, List.getElem_toArray, List.getElem_cons_zero, List.getElem_cons_succ, List.setIfInBounds_toArray, List.set_cons_zero, List.set_cons_succ]
    refine ⟨by kernel_rfl, ?_⟩
    try simp only [Act.put, List.getElem_toArray, List.getElem_cons_zero, List.getElem_cons_succ, List.setIfInBounds_toArray, List.set_cons_zero, List.set_cons_succ]
    go_wp2_with fail
    rw [← HRP2.out]
    exact bodyPost_ret (results_tct_sat rfl _ S4 rfl rfl Try.underlying28 rfl Try.sizeQ rfl) rfl (.inl ⟨by decide, _, rfl, by simp [Value.oneCell'], rfl, S4.tail.tail⟩)
  subst h2
  have hO : O = (p, 0) := by rw [HO.out, if_pos rfl, if_pos rfl]
  rw [hO] at HRP ⊢
  have hRP := HRP.out
  rw [if_neg (by simp)] at hRP
  clear hO HO HRP
  obtain ⟨B1, s1, e1, h1⟩ : ∃ B1 s1 e1, tk 1 p 0 = (B1, s1, e1) := ⟨_, _, _, rfl⟩
  obtain ⟨B2, s2, e2, h2⟩ : ∃ B2 s2 e2, tk 1 s1 e1 = (B2, s2, e2) := ⟨_, _, _, rfl⟩
  obtain ⟨sq, s3, e3, h3⟩ : ∃ sq s3 e3, rdNum s2 e2 = (sq, s3, e3) := ⟨_, _, _, rfl⟩
  obtain ⟨mn, s4, e4, h4⟩ : ∃ mn s4 e4, rdNum s3 e3 = (mn, s4, e4) := ⟨_, _, _, rfl⟩
  have hb1 : Bytes s1 := by have := (tk_bytes (n := 1) 0 hdb).2; rw [h1] at this; exact this
  have hb2 : Bytes s2 := by have := (tk_bytes (n := 1) e1 hb1).2; rw [h2] at this; exact this
  have hb3 : Bytes s3 := by have := rdNum_bytes (e := e2) hb2; rw [h3] at this; exact this
  have hb4 : Bytes s4 := by have := rdNum_bytes (e := e3) hb3; rw [h4] at this; exact this
  have e1' : r1 p = (B1, s1, e1) := h1
  have e2' : r2 p = (B2, s2, e2) := by unfold r2; rw [e1']; exact h2
  have e3' : r3 p = (sq, s3, e3) := by unfold r3; rw [e2']; exact h3
  have e4' : r4 p = (mn, s4, e4) := by unfold r4; rw [e3']; exact h4
  obtain ⟨k1, hk1⟩ : ∃ k1, le B1 = k1 := ⟨_, rfl⟩
  obtain ⟨k2, hk2⟩ : ∃ k2, le B2 = k2 := ⟨_, rfl⟩
  have hpt : partsOf p = ⟨k1, k2, sq, mn, (rdNums mn.toNat s4 e4).1, (rdBytes (rdNums mn.toNat s4 e4).2.1 (rdNums mn.toNat s4 e4).2.2).1, endsF (rdBytes (rdNums mn.toNat s4 e4).2.1 (rdNums mn.toNat s4 e4).2.2).2.1 (rdBytes (rdNums mn.toNat s4 e4).2.1 (rdNums mn.toNat s4 e4).2.2).2.2⟩ := by
    have e5' : r5 p = rdNums mn.toNat s4 e4 := by unfold r5; rw [e4']
    have e6' : r6 p = rdBytes (rdNums mn.toNat s4 e4).2.1 (rdNums mn.toNat s4 e4).2.2 := by unfold r6; rw [e5']
    unfold partsOf
    rw [e1', e2', e3', e4', e5', e6', hk1, hk2]
  rw [hpt] at hRP ⊢
  simp only at hRP
  have H1 : Hid (le (tk 1 p 0).1 = k1 ∧ (tk 1 p 0).2.1 = s1 ∧ (tk 1 p 0).2.2 = e1) := by show _ ∧ _; rw [h1]; exact ⟨hk1, rfl, rfl⟩
  have H2 : Hid (le (tk 1 s1 e1).1 = k2 ∧ (tk 1 s1 e1).2.1 = s2 ∧ (tk 1 s1 e1).2.2 = e2) := by show _ ∧ _; rw [h2]; exact ⟨hk2, rfl, rfl⟩
  have H3 := Lib.hid h3
  have H4 := Lib.hid h4
  have HDB := Lib.hid hdb
  have HRP := Lib.hid hRP
  clear hRP hpt e1' e2' e3' e4' hk1 hk2 h1 h2 h3 h4 hdb
  go_enter Try.func28, Try.ntmps28
  go_upto_region 12 with (first
    | (go_at_call 38; refine HF.out.mono ?_; unfold Decoded; rintro e w2 ⟨ao, cap, rfl, S2⟩; have hrd := S2.own_rd; have hol := S2.own_len)
    | (go_at_call 39; refine (newReader_any (m := p.length) S2 hrd rfl (fun h => (hol.2.2.2 h).2) (by omega)).mono ?_; rintro e w3 ⟨r, rfl, S3⟩; clear hol)
    | (go_at_call 41; refine (rByte_any S4 hb1).mono ?_; rw [H2.out.1, H2.out.2.1, H2.out.2.2]; rintro e w5 ⟨rfl, S5⟩; have k0 := S5.cell 2 rfl 0; have f0 := S5.frozen 2 rfl 1)
    | (go_at_call 41; refine (rByte_any S3 HDB.out).mono ?_; rw [H1.out.1, H1.out.2.1, H1.out.2.2]; rintro e w4 ⟨rfl, S4⟩)
    | (go_at_call 40; refine (rNum_any S7 hb3).mono ?_; unfold Nummed; rw [H4.out]; rintro e w8 ⟨rfl, S8⟩)
    | (go_at_call 40; refine (rNum_any S5 hb2).mono ?_; unfold Nummed; rw [H3.out]; rintro e w6 ⟨rfl, S6⟩; have q1 : w6.cell? ⟨w.heap.size, 1, none⟩ = some (.int .i64 0) := S6.cell 2 rfl 1; have fq : w6.frozen? ⟨w.heap.size, 1, none⟩ = false := S6.frozen 2 rfl 1; have S7 := S6.setCell (k := 1) (v := .int .i64 sq) 2 rfl))
  have S9 : Sat W0 w8 (Rr r s4 e4 :: sbs ao p.length cap p :: blk w.heap.size [.int .i64 0, .int .i64 sq, .slice none 0 0, .slice none 0 0] 28 :: L) := S8
  have q8 : w8.cell? ⟨w.heap.size, 1, none⟩ = some (.int .i64 sq) := S9.cell 2 rfl 1
  generalize w.heap.size = px at S9 q8 ⊢
  clear HF S1 S2 S3 S4 S5 S6 S7 S8 hrd k0 f0 q1 fq H1 H2 H3 H4 HDB
  go_cut [61] (fun v wx => v = .bool (decide (k1 ≠ mark ∨ ¬ (0 ≤ sq ∧ sq ≤ 9007199254740992) ∨ mn < 0 ∨ 80 < mn)) ∧ wx = w8)
  case first =>
    by_cases g1 : k1 = mark
    case neg =>
      have g1' : (k1 != mark) = true := by simpa using g1
      have HB : Hid (decide (k1 ≠ mark ∨ ¬ (0 ≤ sq ∧ sq ≤ 9007199254740992) ∨ mn < 0 ∨ 80 < mn) = true) := decide_eq_true (Or.inl g1)
      clear g1
      go_wp2_with (fail)
      go_meet
      exact ⟨by rw [HB.out], rfl⟩
    have g1' : (k1 != mark) = false := by simpa using g1
    by_cases g2 : 0 ≤ sq ∧ sq ≤ 9007199254740992
    case neg =>
      have g2' : Hid (decide (0 ≤ sq ∧ sq ≤ 9007199254740992) = false) := decide_eq_false g2
      have HB : Hid (decide (k1 ≠ mark ∨ ¬ (0 ≤ sq ∧ sq ≤ 9007199254740992) ∨ mn < 0 ∨ 80 < mn) = true) := decide_eq_true (Or.inr (Or.inl g2))
      clear g1 g2
      go_wp2_with (go_at_call 24; refine (isSeq_any sq g2'.out).mono ?_; rintro e wz ⟨rfl, rfl⟩)
      go_meet
      exact ⟨by rw [HB.out], rfl⟩
    have g2' : Hid (decide (0 ≤ sq ∧ sq ≤ 9007199254740992) = true) := decide_eq_true g2
    by_cases g3 : mn < 0
    · have g3' : decide (mn < 0) = true := decide_eq_true g3
      have HB : Hid (decide (k1 ≠ mark ∨ ¬ (0 ≤ sq ∧ sq ≤ 9007199254740992) ∨ mn < 0 ∨ 80 < mn) = true) := decide_eq_true (Or.inr (Or.inr (Or.inl g3)))
      clear g1 g2 g3
      go_wp2_with (go_at_call 24; refine (isSeq_any sq g2'.out).mono ?_; rintro e wz ⟨rfl, rfl⟩)
      go_meet
      exact ⟨by rw [HB.out], rfl⟩
    have g3' : decide (mn < 0) = false := decide_eq_false g3
    by_cases g4 : 80 < mn
    · have g4' : decide (80 < mn) = true := decide_eq_true g4
      have HB : Hid (decide (k1 ≠ mark ∨ ¬ (0 ≤ sq ∧ sq ≤ 9007199254740992) ∨ mn < 0 ∨ 80 < mn) = true) := decide_eq_true (Or.inr (Or.inr (Or.inr g4)))
      clear g1 g2 g3 g4
      go_wp2_with (go_at_call 24; refine (isSeq_any sq g2'.out).mono ?_; rintro e wz ⟨rfl, rfl⟩)
      go_meet
      exact ⟨by rw [HB.out], rfl⟩
    have g4' : decide (80 < mn) = false := decide_eq_false g4
    have HB : Hid (decide (k1 ≠ mark ∨ ¬ (0 ≤ sq ∧ sq ≤ 9007199254740992) ∨ mn < 0 ∨ 80 < mn) = false) := decide_eq_false (by omega)
    clear g1 g2 g3 g4
    go_wp2_with (go_at_call 24; refine (isSeq_any sq g2'.out).mono ?_; rintro e wz ⟨rfl, rfl⟩)
    go_meet
    exact ⟨by rw [HB.out], rfl⟩
  case rest =>
    obtain ⟨rfl, rfl⟩ := hcut
    by_cases gb : k1 ≠ mark ∨ ¬ (0 ≤ sq ∧ sq ≤ 9007199254740992) ∨ mn < 0 ∨ 80 < mn
    · have hrp : rp = 3 := by rw [HRP.out, if_pos gb]
      rw [decide_eq_true gb]
      have HRP2 : Hid (3 = rp) := hrp.symm
      clear hrp HRP gb
      go_wp2_with fail
      have S10 := S9.drew
      refine wp_region_drawn (N := 4) (LN := #[false, false, false, false]) (by kernel_rfl) (by kernel_rfl) (by kernel_rfl) ?_
      refine wpAny_loc (i := 1) (v := ?_) (LN := #[false, true, false, false]) rfl (by kernel_rfl) (by kernel_rfl) (by kernel_rfl) (fun _ _ _ h => h) (by kernel_rfl) (by rfl) ?_ ?_
      rotate_left
      · intro w; first | (go_simp; done) | (go_simp; with_reducible rfl)
      try simp only [Act.put, List.getElem_toArray, List.getElem_cons_zero, List.getElem_cons_succ, List.setIfInBounds_toArray, List.set_cons_zero, List.set_cons_succ]
      refine wpAny_one (i := 0) (LN := #[true, true, false, false]) (by kernel_rfl) rfl (by kernel_rfl) ?_
      intro K hK
      refine step_load_part rfl 28 _ rfl (n := 4) rfl (Sat.whole (S10.sel [2]) 4) rfl Try.underlying28 rfl Try.sizeQ ?_
      refine hK.out _ _ ?_
      clear hK K
      try simp only [Act.put, List.getElem_toArray, List.getElem_cons_zero, List.getElem_cons_succ, List.setIfInBounds_toArray, List.set_cons_zero, List.set_cons_succ]
      refine wpAny_one (i := 2) (LN := #[true, true, true, false]) (by kernel_rfl) rfl (by kernel_rfl) ?_
      intro K hK
      refine step_store_sat (off := 0) (n := 4) rfl 28 _ _ rfl (S10.sel [2]) rfl rfl rfl (by simp) Try.sizeQ (by simp [Value.oneCell']) ?_
      intro w11 S11
      refine hK.out _ _ ?_
      clear hK K
      try simp only [Act.put, List.getElem_toArray, List.getElem_cons_zero, List.getElem_cons_succ, List.setIfInBounds_toArray, List.set_cons_zero, List.set_cons_succ]
      refine wpAny_loc (i := 3) (v := ?_) (LN := #[true, true, true, true]) rfl (by kernel_rfl) (by kernel_rfl) (by kernel_rfl) (fun _ _ _ h => h) (by kernel_rfl) (by rfl) ?_ ?_
      rotate_left
      · intro w; first | (go_simp; done) | (go_simp; with_reducible rfl)
      try simp only [Act.put, List.getElem_toArray, List.getElem_cons_zero, List.getElem_cons_succ, List.setIfInBounds_toArray, List.set_cons_zero, List.set_cons_succ]
      refine ⟨by kernel_rfl, ?_⟩
      try simp only [Act.put, List.getElem_toArray, List.getElem_cons_zero, List.getElem_cons_succ, List.setIfInBounds_toArray, List.set_cons_zero, List.set_cons_succ]
      go_wp2_with fail
      rw [← HRP2.out]
      exact bodyPost_ret (results_tct_sat rfl _ S11 rfl rfl Try.underlying28 rfl Try.sizeQ rfl) rfl (.inl ⟨by decide, _, rfl, by simp [Value.oneCell'], rfl, S11.tail.tail.tail⟩)
    · have hRP := HRP.out
      rw [if_neg gb] at hRP
      rw [decide_eq_false gb]
      have gm : ¬ mn < 0 ∧ ¬ 80 < mn := by omega
      obtain ⟨M, rfl⟩ : ∃ M : Nat, mn = (M : Int) := ⟨mn.toNat, by omega⟩
      rw [show (M : Int).toNat = M by omega] at hRP
      have hM : M ≤ 80 := by omega
      have HRP2 := Lib.hid hRP
      clear hRP HRP gb gm
      have gmI : (M : Int) ≤ 80 := by omega
      go_wp2_with fail
      clear q8
      go_loopw [64] (fun i wr => ∃ (k : Nat) (na : Option Addr) (nc : Nat), k ≤ M ∧ i = .int .i64 k ∧ Sat W0 wr (Rr r (rdNums k s4 e4).2.1 (rdNums k s4 e4).2.2 :: nis na k nc (rdNums k s4 e4).1 :: blk px [.int .i64 0, .int .i64 sq, .slice na k nc, .slice none 0 0] 28 :: sbs ao p.length cap p :: L)) (fun i _ => M - (intOf i).toNat)
      case atStart => exact ⟨0, none, 0, by omega, rfl, (Sat.own_none.2 ⟨rfl, rfl, rfl, S9.sel [0, 1]⟩).swap⟩
      case round =>
        clear S9
        obtain ⟨k, na, nc, hk, rfl, S10⟩ := hrel
        have k0 : (0 : Int) ≤ (k : Int) := Int.natCast_nonneg _
        have hbk := rdNums_bytes k (e := e4) hb4
        have hlk := rdNums_length k s4 e4
        by_cases hlt : k < M
        · have k1' : (k : Int) < (M : Int) := by omega
          have hsn := rdNums_snoc k s4 e4
          generalize rdNums k s4 e4 = R at S10 hbk hlk hsn
          obtain ⟨ns, rs, re⟩ := R
          simp only at S10 hbk hlk hsn
          obtain ⟨v, rs2, re2, hv⟩ : ∃ v rs2 re2, rdNum rs re = (v, rs2, re2) := ⟨_, _, _, rfl⟩
          rw [hv] at hsn
          have HV := Lib.hid hv
          have HSN : Hid (rdNums (k + 1) s4 e4 = (ns ++ [v], rs2, re2)) := hsn
          have HLK := Lib.hid hlk
          obtain ⟨j0, hj, jz0, jz1, jz2⟩ := info_parts Try.infoI
          have S11 := S10.drew
          have q2 := S11.cell 2 rfl 2
          simp only [List.getElem?_cons_zero, List.getElem?_cons_succ] at q2
          have HBK := Lib.hid hbk
          clear hv hsn hlk hbk
          go_upto_region 16 with fail
          refine wp_region_drawn (N := 8) (LN := #[false, false, false, false, false, false, false, false]) (by kernel_rfl) (by kernel_rfl) (by kernel_rfl) ?_
          refine wpAny_loc (i := 0) (v := ?_) (LN := #[true, false, false, false, false, false, false, false]) rfl (by kernel_rfl) (by kernel_rfl) (by kernel_rfl) (fun _ _ _ h => h) (by kernel_rfl) (by rfl) ?_ ?_
          rotate_left
          · intro w; first | (go_simp; done) | (go_simp; with_reducible rfl)
          try simp only [Act.put, List.getElem_toArray, List.getElem_cons_zero, List.getElem_cons_succ, List.setIfInBounds_toArray, List.set_cons_zero, List.set_cons_succ]
          refine wpAny_loc (i := 2) (v := ?_) (LN := #[true, false, true, false, false, false, false, false]) rfl (by kernel_rfl) (by kernel_rfl) (by kernel_rfl) (fun _ _ _ h => h) (by kernel_rfl) (by rfl) ?_ ?_
          rotate_left
          · intro w; first | (go_simp; done) | (go_simp; with_reducible rfl)
          try simp only [Act.put, List.getElem_toArray, List.getElem_cons_zero, List.getElem_cons_succ, List.setIfInBounds_toArray, List.set_cons_zero, List.set_cons_succ]
          refine wpAny_two (i := 1) (j := 3) (Li := #[true, true, true, false, false, false, false, false]) (Lj := #[true, false, true, true, false, false, false, false]) (by kernel_rfl) rfl rfl (by kernel_rfl) (by kernel_rfl) ?_ ?_
          · intro K hK
            have cl := S11.cell 2 rfl 2
            simp only [List.getElem?_cons_zero, List.getElem?_cons_succ] at cl
            go_simp
            clear cl
            have Sc1 := S11
            refine hK.out _ _ ?_
            clear hK K
            try simp only [Act.put, List.getElem_toArray, List.getElem_cons_zero, List.getElem_cons_succ, List.setIfInBounds_toArray, List.set_cons_zero, List.set_cons_succ]
            refine wpAny_one (i := 3) (LN := #[true, true, true, true, false, false, false, false]) (by kernel_rfl) rfl (by kernel_rfl) ?_
            intro K hK
            go_simp
            go_at_call 40
            refine (rNum_any Sc1 HBK.out).mono ?_
            unfold Nummed
            rw [HV.out]
            rintro e w12 ⟨rfl, Sc2⟩
            go_wp2_with fail
            refine hK.out _ _ ?_
            clear hK K
            try simp only [Act.put, List.getElem_toArray, List.getElem_cons_zero, List.getElem_cons_succ, List.setIfInBounds_toArray, List.set_cons_zero, List.set_cons_succ]
            refine wpAny_one (i := 4) (LN := #[true, true, true, true, true, false, false, false]) (by kernel_rfl) rfl (by kernel_rfl) ?_
            intro K hK
            go_simp
            have Sc3 := Sc2.alloc [.int .i64 v] 3
            refine hK.out _ _ ?_
            clear hK K
            try simp only [Act.put, List.getElem_toArray, List.getElem_cons_zero, List.getElem_cons_succ, List.setIfInBounds_toArray, List.set_cons_zero, List.set_cons_succ]
            refine wpAny_one (i := 5) (LN := #[true, true, true, true, true, true, false, false]) (by kernel_rfl) rfl (by kernel_rfl) ?_
            intro K hK
            refine step_append_sat rfl _ _ _ rfl 3 j0 (.int .i64 0) 1 8 Try.underlying22 hj jz0 jz1 jz2 rfl (by decide) (Sc3.sel [2]) rfl rfl (Rd.lit (Sc3.block 0 rfl).1) rfl (nv_one [v]) (by unfold maxLen; omega) (by omega) ?_
            intro na2 nc2 w13 SF
            rw [show ([.int .i64 v] : List Value) = nv [v] from rfl, ← nv_append] at SF
            have qf := SF.frozen 3 rfl 2
            have qc := SF.cell 3 rfl 2
            simp only [List.getElem?_cons_zero, List.getElem?_cons_succ] at qc
            refine hK.out _ _ ?_
            clear hK K
            try simp only [Act.put, List.getElem_toArray, List.getElem_cons_zero, List.getElem_cons_succ, List.setIfInBounds_toArray, List.set_cons_zero, List.set_cons_succ]
            refine wpAny_loc (i := 6) (v := ?_) (LN := #[true, true, true, true, true, true, true, false]) rfl (by kernel_rfl) (by kernel_rfl) (by kernel_rfl) (fun _ _ _ h => h) (by kernel_rfl) (by rfl) ?_ ?_
            rotate_left
            · intro w; first | (go_simp; done) | (go_simp; with_reducible rfl)
            try simp only [Act.put, List.getElem_toArray, List.getElem_cons_zero, List.getElem_cons_succ, List.setIfInBounds_toArray, List.set_cons_zero, List.set_cons_succ]
            refine wpAny_one (i := 7) (LN := #[true, true, true, true, true, true, true, true]) (by kernel_rfl) rfl (by kernel_rfl) ?_
            intro K hK
            go_simp
            have SG := SF.setCell (k := 2) (v := .slice na2 (k + 1) nc2) 3 rfl
            refine hK.out _ _ ?_
            clear hK K
            try simp only [Act.put, List.getElem_toArray, List.getElem_cons_zero, List.getElem_cons_succ, List.setIfInBounds_toArray, List.set_cons_zero, List.set_cons_succ]
            refine ⟨by kernel_rfl, ?_⟩
            try simp only [Act.put, List.getElem_toArray, List.getElem_cons_zero, List.getElem_cons_succ, List.setIfInBounds_toArray, List.set_cons_zero, List.set_cons_succ]
            go_wp2_with fail
            refine ⟨⟨k + 1, na2, nc2, by omega, rfl, ?_⟩, by simp [intOf]; omega⟩
            rw [HSN.out]
            exact (SG.sel [1]).tail.swap
          · intro K hK
            go_simp
            go_at_call 40
            refine (rNum_any S11 HBK.out).mono ?_
            unfold Nummed
            rw [HV.out]
            rintro e w12 ⟨rfl, Sc1⟩
            go_wp2_with fail
            refine hK.out _ _ ?_
            clear hK K
            try simp only [Act.put, List.getElem_toArray, List.getElem_cons_zero, List.getElem_cons_succ, List.setIfInBounds_toArray, List.set_cons_zero, List.set_cons_succ]
            refine wpAny_two (i := 1) (j := 4) (Li := #[true, true, true, true, false, false, false, false]) (Lj := #[true, false, true, true, true, false, false, false]) (by kernel_rfl) rfl rfl (by kernel_rfl) (by kernel_rfl) ?_ ?_
            · intro K hK
              have cl := Sc1.cell 2 rfl 2
              simp only [List.getElem?_cons_zero, List.getElem?_cons_succ] at cl
              go_simp
              clear cl
              have Sc2 := Sc1
              refine hK.out _ _ ?_
              clear hK K
              try simp only [Act.put, List.getElem_toArray, List.getElem_cons_zero, List.getElem_cons_succ, List.setIfInBounds_toArray, List.set_cons_zero, List.set_cons_succ]
              refine wpAny_one (i := 4) (LN := #[true, true, true, true, true, false, false, false]) (by kernel_rfl) rfl (by kernel_rfl) ?_
              intro K hK
              go_simp
              have Sc3 := Sc2.alloc [.int .i64 v] 3
              refine hK.out _ _ ?_
              clear hK K
              try simp only [Act.put, List.getElem_toArray, List.getElem_cons_zero, List.getElem_cons_succ, List.setIfInBounds_toArray, List.set_cons_zero, List.set_cons_succ]
              refine wpAny_one (i := 5) (LN := #[true, true, true, true, true, true, false, false]) (by kernel_rfl) rfl (by kernel_rfl) ?_
              intro K hK
              refine step_append_sat rfl _ _ _ rfl 3 j0 (.int .i64 0) 1 8 Try.underlying22 hj jz0 jz1 jz2 rfl (by decide) (Sc3.sel [2]) rfl rfl (Rd.lit (Sc3.block 0 rfl).1) rfl (nv_one [v]) (by unfold maxLen; omega) (by omega) ?_
              intro na2 nc2 w13 SF
              rw [show ([.int .i64 v] : List Value) = nv [v] from rfl, ← nv_append] at SF
              have qf := SF.frozen 3 rfl 2
              have qc := SF.cell 3 rfl 2
              simp only [List.getElem?_cons_zero, List.getElem?_cons_succ] at qc
              refine hK.out _ _ ?_
              clear hK K
              try simp only [Act.put, List.getElem_toArray, List.getElem_cons_zero, List.getElem_cons_succ, List.setIfInBounds_toArray, List.set_cons_zero, List.set_cons_succ]
              refine wpAny_loc (i := 6) (v := ?_) (LN := #[true, true, true, true, true, true, true, false]) rfl (by kernel_rfl) (by kernel_rfl) (by kernel_rfl) (fun _ _ _ h => h) (by kernel_rfl) (by rfl) ?_ ?_
              rotate_left
              · intro w; first | (go_simp; done) | (go_simp; with_reducible rfl)
              try simp only [Act.put, List.getElem_toArray, List.getElem_cons_zero, List.getElem_cons_succ, List.setIfInBounds_toArray, List.set_cons_zero, List.set_cons_succ]
              refine wpAny_one (i := 7) (LN := #[true, true, true, true, true, true, true, true]) (by kernel_rfl) rfl (by kernel_rfl) ?_
              intro K hK
              go_simp
              have SG := SF.setCell (k := 2) (v := .slice na2 (k + 1) nc2) 3 rfl
              refine hK.out _ _ ?_
              clear hK K
              try simp only [Act.put, List.getElem_toArray, List.getElem_cons_zero, List.getElem_cons_succ, List.setIfInBounds_toArray, List.set_cons_zero, List.set_cons_succ]
              refine ⟨by kernel_rfl, ?_⟩
              try simp only [Act.put, List.getElem_toArray, List.getElem_cons_zero, List.getElem_cons_succ, List.setIfInBounds_toArray, List.set_cons_zero, List.set_cons_succ]
              go_wp2_with fail
              refine ⟨⟨k + 1, na2, nc2, by omega, rfl, ?_⟩, by simp [intOf]; omega⟩
              rw [HSN.out]
              exact (SG.sel [1]).tail.swap
            · intro K hK
              go_simp
              have Sc2 := Sc1.alloc [.int .i64 v] 3
              refine hK.out _ _ ?_
              clear hK K
              try simp only [Act.put, List.getElem_toArray, List.getElem_cons_zero, List.getElem_cons_succ, List.setIfInBounds_toArray, List.set_cons_zero, List.set_cons_succ]
              refine wpAny_one (i := 1) (LN := #[true, true, true, true, true, false, false, false]) (by kernel_rfl) rfl (by kernel_rfl) ?_
              intro K hK
              have cl := Sc2.cell 3 rfl 2
              simp only [List.getElem?_cons_zero, List.getElem?_cons_succ] at cl
              go_simp
              clear cl
              have Sc3 := Sc2
              refine hK.out _ _ ?_
              clear hK K
              try simp only [Act.put, List.getElem_toArray, List.getElem_cons_zero, List.getElem_cons_succ, List.setIfInBounds_toArray, List.set_cons_zero, List.set_cons_succ]
              refine wpAny_one (i := 5) (LN := #[true, true, true, true, true, true, false, false]) (by kernel_rfl) rfl (by kernel_rfl) ?_
              intro K hK
              refine step_append_sat rfl _ _ _ rfl 3 j0 (.int .i64 0) 1 8 Try.underlying22 hj jz0 jz1 jz2 rfl (by decide) (Sc3.sel [2]) rfl rfl (Rd.lit (Sc3.block 0 rfl).1) rfl (nv_one [v]) (by unfold maxLen; omega) (by omega) ?_
              intro na2 nc2 w13 SF
              rw [show ([.int .i64 v] : List Value) = nv [v] from rfl, ← nv_append] at SF
              have qf := SF.frozen 3 rfl 2
              have qc := SF.cell 3 rfl 2
              simp only [List.getElem?_cons_zero, List.getElem?_cons_succ] at qc
              refine hK.out _ _ ?_
              clear hK K
              try simp only [Act.put, List.getElem_toArray, List.getElem_cons_zero, List.getElem_cons_succ, List.setIfInBounds_toArray, List.set_cons_zero, List.set_cons_succ]
              refine wpAny_loc (i := 6) (v := ?_) (LN := #[true, true, true, true, true, true, true, false]) rfl (by kernel_rfl) (by kernel_rfl) (by kernel_rfl) (fun _ _ _ h => h) (by kernel_rfl) (by rfl) ?_ ?_
              rotate_left
              · intro w; first | (go_simp; done) | (go_simp; with_reducible rfl)
              try simp only [Act.put, List.getElem_toArray, List.getElem_cons_zero, List.getElem_cons_succ, List.setIfInBounds_toArray, List.set_cons_zero, List.set_cons_succ]
              refine wpAny_one (i := 7) (LN := #[true, true, true, true, true, true, true, true]) (by kernel_rfl) rfl (by kernel_rfl) ?_
              intro K hK
              go_simp
              have SG := SF.setCell (k := 2) (v := .slice na2 (k + 1) nc2) 3 rfl
              refine hK.out _ _ ?_
              clear hK K
              try simp only [Act.put, List.getElem_toArray, List.getElem_cons_zero, List.getElem_cons_succ, List.setIfInBounds_toArray, List.set_cons_zero, List.set_cons_succ]
              refine ⟨by kernel_rfl, ?_⟩
              try simp only [Act.put, List.getElem_toArray, List.getElem_cons_zero, List.getElem_cons_succ, List.setIfInBounds_toArray, List.set_cons_zero, List.set_cons_succ]
              go_wp2_with fail
              refine ⟨⟨k + 1, na2, nc2, by omega, rfl, ?_⟩, by simp [intOf]; omega⟩
              rw [HSN.out]
              exact (SG.sel [1]).tail.swap
        · have hkm : k = M := by omega
          subst hkm
          generalize hRn : rdNums k s4 e4 = R at S10 hbk hlk HRP2
          obtain ⟨ns, rs, re⟩ := R
          simp only at S10 hbk hlk
          obtain ⟨dt, ds, de, hdt⟩ : ∃ dt ds de, rdBytes rs re = (dt, ds, de) := ⟨_, _, _, rfl⟩
          have hRP3 := HRP2.out
          simp only [hdt] at hRP3
          have HDT := Lib.hid hdt
          have HRN := Lib.hid hRn
          obtain ⟨f, hf⟩ : ∃ f, endsF ds de = f := ⟨_, rfl⟩
          rw [hf] at hRP3
          have HF : Hid (endOf ds de = f) := hf
          have HTN : Hid ((k : Int).toNat = k) := by show _ = _; omega
          clear hRn hdt hf HRP2
          by_cases hfin : f = 0
          case neg =>
            have hf1 : (f != 0) = true := by simpa using hfin
            have HRP4 : Hid (3 = rp) := by show 3 = rp; rw [hRP3, if_pos (.inl hfin)]
            clear hRP3 hfin
            go_wp2_with (first
              | (go_at_call 42; refine (rBytes_any S10 hbk).mono ?_; unfold Bytesd; rw [HDT.out]; rintro e w11 ⟨bo, bc, dts, hx, rfl, S11⟩; obtain rfl : dts = dt := hx.out; have q3 := S11.cell 3 rfl 3; have f3 := S11.frozen 3 rfl 3; simp only [List.getElem?_cons_zero, List.getElem?_cons_succ] at q3; have S12 := S11.setCell (k := 3) (v := .slice bo dts.length bc) 3 rfl)
              | (go_at_call 43; refine (end_any (S12.sel [1])).mono ?_; rw [HF.out]; rintro e w13 ⟨rfl, rfl⟩))
            have S14 := S12.drew
            refine wp_region_drawn (N := 4) (LN := #[false, false, false, false]) (by kernel_rfl) (by kernel_rfl) (by kernel_rfl) ?_
            refine wpAny_loc (i := 1) (v := ?_) (LN := #[false, true, false, false]) rfl (by kernel_rfl) (by kernel_rfl) (by kernel_rfl) (fun _ _ _ h => h) (by kernel_rfl) (by rfl) ?_ ?_
            rotate_left
            · intro w; first | (go_simp; done) | (go_simp; with_reducible rfl)
            try simp only [Act.put, List.getElem_toArray, List.getElem_cons_zero, List.getElem_cons_succ, List.setIfInBounds_toArray, List.set_cons_zero, List.set_cons_succ]
            refine wpAny_one (i := 0) (LN := #[true, true, false, false]) (by kernel_rfl) rfl (by kernel_rfl) ?_
            intro K hK
            refine step_load_part rfl 28 _ rfl (n := 4) rfl (Sat.whole (S14.sel [3]) 4) rfl Try.underlying28 rfl Try.sizeQ ?_
            refine hK.out _ _ ?_
            clear hK K
            try simp only [Act.put, List.getElem_toArray, List.getElem_cons_zero, List.getElem_cons_succ, List.setIfInBounds_toArray, List.set_cons_zero, List.set_cons_succ]
            refine wpAny_one (i := 2) (LN := #[true, true, true, false]) (by kernel_rfl) rfl (by kernel_rfl) ?_
            intro K hK
            refine step_store_sat (off := 0) (n := 4) rfl 28 _ _ rfl (S14.sel [3]) rfl rfl rfl (by simp) Try.sizeQ (by simp [Value.oneCell']) ?_
            intro w15 S15
            refine hK.out _ _ ?_
            clear hK K
            try simp only [Act.put, List.getElem_toArray, List.getElem_cons_zero, List.getElem_cons_succ, List.setIfInBounds_toArray, List.set_cons_zero, List.set_cons_succ]
            refine wpAny_loc (i := 3) (v := ?_) (LN := #[true, true, true, true]) rfl (by kernel_rfl) (by kernel_rfl) (by kernel_rfl) (fun _ _ _ h => h) (by kernel_rfl) (by rfl) ?_ ?_
            rotate_left
            · intro w; first | (go_simp; done) | (go_simp; with_reducible rfl)
            try simp only [Act.put, List.getElem_toArray, List.getElem_cons_zero, List.getElem_cons_succ, List.setIfInBounds_toArray, List.set_cons_zero, List.set_cons_succ]
            refine ⟨by kernel_rfl, ?_⟩
            try simp only [Act.put, List.getElem_toArray, List.getElem_cons_zero, List.getElem_cons_succ, List.setIfInBounds_toArray, List.set_cons_zero, List.set_cons_succ]
            go_wp2_with fail
            rw [← HRP4.out]
            exact bodyPost_ret (results_tct_sat rfl _ S15 rfl rfl Try.underlying28 rfl Try.sizeQ rfl) rfl (.inl ⟨by decide, _, rfl, by simp [Value.oneCell'], rfl, S15.tail.tail.tail.tail.tail⟩)
          subst hfin
          by_cases hmost : most < dt.length
          · have hd1 : decide (most < dt.length) = true := decide_eq_true hmost
            have HRP4 : Hid (3 = rp) := by show 3 = rp; rw [hRP3, if_pos (.inr hmost)]
            clear hRP3 hmost
            go_wp2_with (first
              | (go_at_call 42; refine (rBytes_any S10 hbk).mono ?_; unfold Bytesd; rw [HDT.out]; rintro e w11 ⟨bo, bc, dts, hx, rfl, S11⟩; obtain rfl : dts = dt := hx.out; have q3 := S11.cell 3 rfl 3; have f3 := S11.frozen 3 rfl 3; simp only [List.getElem?_cons_zero, List.getElem?_cons_succ] at q3; have S12 := S11.setCell (k := 3) (v := .slice bo dts.length bc) 3 rfl)
              | (go_at_call 43; refine (end_any (S12.sel [1])).mono ?_; rw [HF.out]; rintro e w13 ⟨rfl, rfl⟩))
            have S14 := S12.drew
            refine wp_region_drawn (N := 4) (LN := #[false, false, false, false]) (by kernel_rfl) (by kernel_rfl) (by kernel_rfl) ?_
            refine wpAny_loc (i := 1) (v := ?_) (LN := #[false, true, false, false]) rfl (by kernel_rfl) (by kernel_rfl) (by kernel_rfl) (fun _ _ _ h => h) (by kernel_rfl) (by rfl) ?_ ?_
            rotate_left
            · intro w; first | (go_simp; done) | (go_simp; with_reducible rfl)
            try simp only [Act.put, List.getElem_toArray, List.getElem_cons_zero, List.getElem_cons_succ, List.setIfInBounds_toArray, List.set_cons_zero, List.set_cons_succ]
            refine wpAny_one (i := 0) (LN := #[true, true, false, false]) (by kernel_rfl) rfl (by kernel_rfl) ?_
            intro K hK
            refine step_load_part rfl 28 _ rfl (n := 4) rfl (Sat.whole (S14.sel [3]) 4) rfl Try.underlying28 rfl Try.sizeQ ?_
            refine hK.out _ _ ?_
            clear hK K
            try simp only [Act.put, List.getElem_toArray, List.getElem_cons_zero, List.getElem_cons_succ, List.setIfInBounds_toArray, List.set_cons_zero, List.set_cons_succ]
            refine wpAny_one (i := 2) (LN := #[true, true, true, false]) (by kernel_rfl) rfl (by kernel_rfl) ?_
            intro K hK
            refine step_store_sat (off := 0) (n := 4) rfl 28 _ _ rfl (S14.sel [3]) rfl rfl rfl (by simp) Try.sizeQ (by simp [Value.oneCell']) ?_
            intro w15 S15
            refine hK.out _ _ ?_
            clear hK K
            try simp only [Act.put, List.getElem_toArray, List.getElem_cons_zero, List.getElem_cons_succ, List.setIfInBounds_toArray, List.set_cons_zero, List.set_cons_succ]
            refine wpAny_loc (i := 3) (v := ?_) (LN := #[true, true, true, true]) rfl (by kernel_rfl) (by kernel_rfl) (by kernel_rfl) (fun _ _ _ h => h) (by kernel_rfl) (by rfl) ?_ ?_
            rotate_left
            · intro w; first | (go_simp; done) | (go_simp; with_reducible rfl)
            try simp only [Act.put, List.getElem_toArray, List.getElem_cons_zero, List.getElem_cons_succ, List.setIfInBounds_toArray, List.set_cons_zero, List.set_cons_succ]
            refine ⟨by kernel_rfl, ?_⟩
            try simp only [Act.put, List.getElem_toArray, List.getElem_cons_zero, List.getElem_cons_succ, List.setIfInBounds_toArray, List.set_cons_zero, List.set_cons_succ]
            go_wp2_with fail
            rw [← HRP4.out]
            exact bodyPost_ret (results_tct_sat rfl _ S15 rfl rfl Try.underlying28 rfl Try.sizeQ rfl) rfl (.inl ⟨by decide, _, rfl, by simp [Value.oneCell'], rfl, S15.tail.tail.tail.tail.tail⟩)
          have hd1 : decide (most < dt.length) = false := decide_eq_false hmost
          have HRP4 : Hid (0 = rp) := by show 0 = rp; rw [hRP3, if_neg (by rintro (h | h); exact h rfl; exact hmost h)]
          clear hRP3 hmost
          go_wp2_with (first
            | (go_at_call 42; refine (rBytes_any S10 hbk).mono ?_; unfold Bytesd; rw [HDT.out]; rintro e w11 ⟨bo, bc, dts, hx, rfl, S11⟩; obtain rfl : dts = dt := hx.out; have q3 := S11.cell 3 rfl 3; have f3 := S11.frozen 3 rfl 3; simp only [List.getElem?_cons_zero, List.getElem?_cons_succ] at q3; have S12 := S11.setCell (k := 3) (v := .slice bo dts.length bc) 3 rfl)
            | (go_at_call 43; refine (end_any (S12.sel [1])).mono ?_; rw [HF.out]; rintro e w13 ⟨rfl, rfl⟩))
          have S14 := S12.drew
          refine wp_region_drawn (N := 5) (LN := #[false, false, false, false, false]) (by kernel_rfl) (by kernel_rfl) (by kernel_rfl) ?_
          refine wpAny_loc (i := 0) (v := ?_) (LN := #[true, false, false, false, false]) rfl (by kernel_rfl) (by kernel_rfl) (by kernel_rfl) (fun _ _ _ h => h) (by kernel_rfl) (by rfl) ?_ ?_
          rotate_left
          · intro w; first | (go_simp; done) | (go_simp; with_reducible rfl)
          try simp only [Act.put, List.getElem_toArray, List.getElem_cons_zero, List.getElem_cons_succ, List.setIfInBounds_toArray, List.set_cons_zero, List.set_cons_succ]
          refine wpAny_loc (i := 2) (v := ?_) (LN := #[true, false, true, false, false]) rfl (by kernel_rfl) (by kernel_rfl) (by kernel_rfl) (fun _ _ _ h => h) (by kernel_rfl) (by rfl) ?_ ?_
          rotate_left
          · intro w; first | (go_simp; done) | (go_simp; with_reducible rfl)
          try simp only [Act.put, List.getElem_toArray, List.getElem_cons_zero, List.getElem_cons_succ, List.setIfInBounds_toArray, List.set_cons_zero, List.set_cons_succ]
          refine wpAny_one (i := 1) (LN := #[true, true, true, false, false]) (by kernel_rfl) rfl (by kernel_rfl) ?_
          intro K hK
          refine step_load_part rfl 28 _ rfl (n := 4) rfl (Sat.whole (S14.sel [3]) 4) rfl Try.underlying28 rfl Try.sizeQ ?_
          refine hK.out _ _ ?_
          clear hK K
          try simp only [Act.put, List.getElem_toArray, List.getElem_cons_zero, List.getElem_cons_succ, List.setIfInBounds_toArray, List.set_cons_zero, List.set_cons_succ]
          refine wpAny_one (i := 3) (LN := #[true, true, true, true, false]) (by kernel_rfl) rfl (by kernel_rfl) ?_
          intro K hK
          refine step_store_sat (off := 0) (n := 4) rfl 28 _ _ rfl (S14.sel [3]) rfl rfl rfl (by simp) Try.sizeQ (by simp [Value.oneCell']) ?_
          intro w15 S15
          refine hK.out _ _ ?_
          clear hK K
          try simp only [Act.put, List.getElem_toArray, List.getElem_cons_zero, List.getElem_cons_succ, List.setIfInBounds_toArray, List.set_cons_zero, List.set_cons_succ]
          refine wpAny_loc (i := 4) (v := ?_) (LN := #[true, true, true, true, true]) rfl (by kernel_rfl) (by kernel_rfl) (by kernel_rfl) (fun _ _ _ h => h) (by kernel_rfl) (by rfl) ?_ ?_
          rotate_left
          · intro w; first | (go_simp; done) | (go_simp; with_reducible rfl)
          try simp only [Act.put, List.getElem_toArray, List.getElem_cons_zero, List.getElem_cons_succ, List.setIfInBounds_toArray, List.set_cons_zero, List.set_cons_succ]
          refine ⟨by kernel_rfl, ?_⟩
          try simp only [Act.put, List.getElem_toArray, List.getElem_cons_zero, List.getElem_cons_succ, List.setIfInBounds_toArray, List.set_cons_zero, List.set_cons_succ]
          go_wp2_with fail
          rw [HTN.out, HRN.out, ← HRP4.out]
          show bodyPost _ _ (Readen W0 L 0 k2 sq ns (rdBytes rs re).1) _ _ _
          rw [HDT.out]
          have S16 := (((S15.tail.sel [2]).sel [2]).tail.sel [2]).tail
          refine bodyPost_ret (results_tct_sat rfl _ S15 rfl rfl Try.underlying28 rfl Try.sizeQ rfl) rfl (.inr ⟨rfl, na, nc, bo, bc, ?_, ?_⟩)
          · rw [hlk]; rfl
          · rw [hlk]
            exact S16
end Go.Proofs.Ytlkmnbnphgfppaa
