/-
  wire: Decode, DecodeReply.
-/
import Derived.Test.YtlkmnbnphgfppaaWi3
namespace Go.Proofs.Ytlkmnbnphgfppaa
open Go.RowKit Go.Sep Go.Oct
set_option linter.unusedSimpArgs false

theorem take_of_read {mark least top : Int} {most : Nat} {b : List Int} :
    takeP mark least top most b = if readP mark most b ≠ 0 then (0, 0, [], [], readP mark most b)
      else if (partsOf (openF b).1).kind < least ∨ top < (partsOf (openF b).1).kind then (0, 0, [], [], 3)
      else ((partsOf (openF b).1).kind, (partsOf (openF b).1).seq, (partsOf (openF b).1).nums, (partsOf (openF b).1).data, 0) := by
  unfold takeP readP
  by_cases h0 : (openF b).2 = 0
  case neg => simp [h0]
  have hlen : (partsOf (openF b).1).nums.length = (partsOf (openF b).1).many.toNat := by
    unfold partsOf; simp only; unfold r5; rw [rdNums_length]
  simp only [h0, ne_eq, not_true_eq_false, if_false]
  generalize partsOf (openF b).1 = q at hlen
  by_cases c1 : q.many < 0
  · simp [c1]
  by_cases c2 : 80 < q.many
  · simp [c2]
  have hnl : ¬ 80 < q.nums.length := by omega
  by_cases c3 : q.mark = mark
  case neg => simp [c1, c2, c3]
  by_cases c4 : q.seq < 0
  · have c4' : ¬ 0 ≤ q.seq := by omega
    simp [c1, c2, c3, c4, c4', maySay]
  have c4' : 0 ≤ q.seq := by omega
  by_cases c5 : 9007199254740992 < q.seq
  · have c5' : ¬ q.seq ≤ 9007199254740992 := by omega
    simp [c1, c2, c3, c4, c4', c5, c5', maySay]
  have c5' : q.seq ≤ 9007199254740992 := by omega
  by_cases c6 : q.fin = 0
  case neg => simp [c1, c2, c3, c4, c4', c5, c5', c6]
  by_cases c7 : most < q.data.length
  · by_cases c8 : q.kind < least ∨ top < q.kind
    · have c9 : q.kind < least ∨ top < q.kind ∨ q.seq < 0 ∨ 9007199254740992 < q.seq := by omega
      simp [c1, c2, c3, c4', c5', c6, c7, maySay, c9]
    · have c9 : ¬ (q.kind < least ∨ top < q.kind ∨ q.seq < 0 ∨ 9007199254740992 < q.seq) := by omega
      simp [c1, c2, c3, c4', c5', c6, c7, maySay, c9]
  · by_cases c8 : q.kind < least ∨ top < q.kind
    · have c9 : q.kind < least ∨ top < q.kind ∨ q.seq < 0 ∨ 9007199254740992 < q.seq := by omega
      simp [c1, c2, c3, c4', c5', c6, c7, maySay, c9, c8]
    · have c9 : ¬ (q.kind < least ∨ top < q.kind ∨ q.seq < 0 ∨ 9007199254740992 < q.seq) := by omega
      simp [c1, c2, c3, c4', c5', c6, c7, maySay, c9, c8, hnl]
theorem zstore4 {x : List Value} (h : x.length = 4) : ([.int .i64 0, .int .i64 0, .slice none 0 0, .slice none 0 0] : List Value).take 0 ++ x ++ ([.int .i64 0, .int .i64 0, .slice none 0 0, .slice none 0 0] : List Value).drop (0 + 4) = x := by simp
theorem part_kind {p : List Int} (h : Bytes p) : 0 ≤ (partsOf p).kind ∧ (partsOf p).kind < 256 := tk_one_bd ((tk_bytes (n := 1) 0 h).2)
theorem open_length (bs : List Int) : (openF bs).1.length ≤ bs.length := by
  unfold openF
  split
  · split
    · exact decF_length bs
    · exact Nat.zero_le _
  · exact Nat.zero_le _
theorem open_bytes {bs : List Int} (h : Bytes bs) : Bytes (openF bs).1 := by
  unfold openF
  split
  · split
    · exact decF_bytes h
    · intro x hx; exact absurd hx (by simp)
  · intro x hx; exact absurd hx (by simp)

theorem Try.sizeP : (Try.prog.info? 46).map (·.size) = some 4 := by kernel_rfl
theorem results_cell_tmp_sat {P : Program} {fn : Func} {p q : Tmp} {ty : TypeId} (h : fn.results = #[.cell p ty, .tmp q]) (tmps : Array Value) {W0 w : World} {L : List Asn} {g : Nat} {cs : List Value} {e : TypeId} {d : TypeDesc} (S : Sat W0 w (blk g cs e :: L))
    (hp : tmps.getD p undef = .pointer (some ⟨g, 0, none⟩)) (hu : P.underlying ty = some d) (hd : aggKind d = true) (hi : (P.info? ty).map (·.size) = some cs.length) {v : Value} (hv : tmps.getD q undef = v) :
    (results fn tmps).run P w = .ok (.tuple #[.agg cs.toArray, v]) w := by
  have hp' : tmps[p]?.getD undef = .pointer (some ⟨g, 0, none⟩) := by simpa using hp
  have hv' : tmps[q]?.getD undef = v := by simpa using hv
  have hl := run_loadVar_part (P := P) (w := w) (g := g) (off := 0) (n := cs.length) (cs := cs) (fun j _ => by rw [S.cell 0 rfl, Nat.zero_add]) rfl hu hd hi
  simp [results, h, hp', hv', asAddr, hl]

def DecQ (W0 : World) (L : List Asn) (r : Int × Int × List Int × List Int × Int) (e : Ending) (w' : World) : Prop :=
  ∃ na nc da dc, e = .returned (.tuple #[.agg #[.int .i64 r.1, .int .i64 r.2.1, .slice na r.2.2.1.length nc, .slice da r.2.2.2.1.length dc], .int .i64 r.2.2.2.2]) ∧ Sat W0 w' (nis na r.2.2.1.length nc r.2.2.1 :: sbs da r.2.2.2.1.length dc r.2.2.2.1 :: L)
theorem DecQ_bad {W0 : World} {L : List Asn} {er : Int} {w' : World} (S : Sat W0 w' L) : DecQ W0 L (0, 0, [], [], er) (.returned (.tuple #[.agg #[.int .i64 0, .int .i64 0, .slice none 0 0, .slice none 0 0], .int .i64 er])) w' :=
  ⟨none, 0, none, 0, rfl, Sat.own_none.2 ⟨rfl, rfl, rfl, Sat.own_none.2 ⟨rfl, rfl, rfl, S⟩⟩⟩

set_option maxRecDepth 100000 in
set_option maxHeartbeats 6400000 in
theorem wDecode_any {W0 w : World} {L : List Asn} (S : Sat W0 w L) {a : Option Addr} {m c : Nat} {xs : List Int} (hR : ∀ w', Sat W0 w' L → Rd w' a (bv xs)) (hm : xs.length = m) (hB : Bytes xs) (hmc : m ≤ c) (hb : m ≤ 1000000000) :
    Calls Try.prog 16 #[.slice a m c] w (DecQ W0 L (takeP 81 1 20 4096 xs)) := by
  have S1 := S.alloc [.int .i64 0, .int .i64 0, .slice none 0 0, .slice none 0 0] 28
  have HT : Hid (takeP 81 1 20 4096 xs = _) := take_of_read
  have hkb := part_kind (open_bytes hB)
  have HF := Lib.hid (fun (w' : World) (L' : List Asn) (h : Sat W0 w' L') (hL : ∀ w', Sat W0 w' L' → Sat W0 w' L) => read_any h (c := c) (fun w' h => hR w' (hL w' h)) hm hB hmc hb 81 4096 (by omega))
  generalize takeP 81 1 20 4096 xs = R at HT ⊢
  generalize readP 81 4096 xs = er at HF HT
  generalize partsOf (openF xs).1 = q at HF HT hkb
  obtain ⟨qm, qk, qs, qn, ns, dt, qf⟩ := q
  simp only at HF HT hkb
  clear hR hm hB
  by_cases her : er = 0
  case neg =>
    have HR2 : Hid (R = (0, 0, [], [], er)) := by show R = _; rw [HT.out, if_pos her]
    have he1 : (er == 0) = false := by simpa using her
    have he2 : (er != 0) = true := by simpa using her
    have HF2 := Lib.hid (fun (w' : World) (L' : List Asn) (h : Sat W0 w' L') (hL : ∀ w', Sat W0 w' L' → Sat W0 w' L) => (HF.out w' L' h hL).mono (fun e w'' h => h.elim (fun h => h.2) (fun h => absurd h.1 her)))
    clear HT her HF
    go_enter Try.func16, Try.ntmps16
    go_wp2_with (first
      | (go_at_call 28; refine (HF2.out _ _ S1 (fun w' h => h.tail)).mono ?_; rintro e w3 ⟨x, hxl, hx1, rfl, S3⟩; (have S4 := S3.alloc [.int .i64 0, .int .i64 0, .slice none 0 0, .slice none 0 0] 28; have HXL := Lib.hid hxl; have HX1 := Lib.hid hx1; clear hx1))
      | (refine wpList_store_sat (off := 0) (n := 4) rfl 28 _ _ rfl S4 rfl rfl HXL.out (by simp) Try.sizeQ HX1.out ?_; intro w5 S5)
      | (refine wpList_store_sat (off := 0) (n := 4) rfl 28 _ _ rfl (S5.sel [1]) rfl rfl (by rfl) (by simp) Try.sizeQ (by simp [Value.oneCell']) ?_; intro w7 S7; rw [zstore4 (by rfl)] at S7))
    refine bodyPost_ret (results_cell_tmp_sat rfl _ S7 rfl Try.underlying28 rfl Try.sizeQ rfl) rfl ?_
    rw [HR2.out]
    exact DecQ_bad S7.tail.tail
  subst her
  have HF2 := Lib.hid (fun (w' : World) (L' : List Asn) (h : Sat W0 w' L') (hL : ∀ w', Sat W0 w' L' → Sat W0 w' L) => (HF.out w' L' h hL).mono (fun e w'' h => h.elim (fun h => absurd rfl h.1) (fun h => h.2)))
  clear HF
  have hR1 := HT.out
  rw [if_neg (by simp)] at hR1
  by_cases hk : qk < 1 ∨ 20 < qk
  · have HR2 : Hid (R = (0, 0, [], [], 3)) := by show R = _; rw [hR1, if_pos hk]
    clear HT hR1
    by_cases hk1 : qk < 1
    · have hd1 : decide (qk < 1) = true := decide_eq_true hk1
      clear hk
      go_enter Try.func16, Try.ntmps16
      go_wp2_with (first
        | (go_at_call 28; refine (HF2.out _ _ S1 (fun w' h => h.tail)).mono ?_; rintro e w3 ⟨na, nc, da, dc, rfl, S3⟩; (have S4 := S3.alloc [.int .i64 0, .int .i64 0, .slice none 0 0, .slice none 0 0] 28))
        | (refine wpList_store_sat (off := 0) (n := 4) rfl 28 _ _ rfl S4 rfl rfl rfl (by simp) Try.sizeQ (by simp [Value.oneCell']) ?_; intro w5 S5; rw [zstore4 (by rfl)] at S5)
        | (refine wpList_store_sat (off := 0) (n := 4) rfl 28 _ _ rfl (S5.sel [3]) rfl rfl (by rfl) (by simp) Try.sizeQ (by simp [Value.oneCell']) ?_; intro w7 S7; rw [zstore4 (by rfl)] at S7))
      refine bodyPost_ret (results_cell_tmp_sat rfl _ S7 rfl Try.underlying28 rfl Try.sizeQ rfl) rfl ?_
      rw [HR2.out]
      exact DecQ_bad S7.tail.tail.tail.tail
    · have hd1 : decide (qk < 1) = false := decide_eq_false hk1
      have hd2 : decide (20 < qk) = true := decide_eq_true (by omega)
      clear hk hk1
      go_enter Try.func16, Try.ntmps16
      go_wp2_with (first
        | (go_at_call 28; refine (HF2.out _ _ S1 (fun w' h => h.tail)).mono ?_; rintro e w3 ⟨na, nc, da, dc, rfl, S3⟩; (have S4 := S3.alloc [.int .i64 0, .int .i64 0, .slice none 0 0, .slice none 0 0] 28))
        | (refine wpList_store_sat (off := 0) (n := 4) rfl 28 _ _ rfl S4 rfl rfl rfl (by simp) Try.sizeQ (by simp [Value.oneCell']) ?_; intro w5 S5; rw [zstore4 (by rfl)] at S5)
        | (refine wpList_store_sat (off := 0) (n := 4) rfl 28 _ _ rfl (S5.sel [3]) rfl rfl (by rfl) (by simp) Try.sizeQ (by simp [Value.oneCell']) ?_; intro w7 S7; rw [zstore4 (by rfl)] at S7))
      refine bodyPost_ret (results_cell_tmp_sat rfl _ S7 rfl Try.underlying28 rfl Try.sizeQ rfl) rfl ?_
      rw [HR2.out]
      exact DecQ_bad S7.tail.tail.tail.tail
  · have HR2 : Hid (R = (qk, qs, ns, dt, 0)) := by show R = _; rw [hR1, if_neg hk]
    have hd1 : decide (qk < 1) = false := decide_eq_false (by omega)
    have hd2 : decide (20 < qk) = false := decide_eq_false (by omega)
    clear HT hR1
    go_enter Try.func16, Try.ntmps16
    go_wp2_with (first
      | (go_at_call 28; refine (HF2.out _ _ S1 (fun w' h => h.tail)).mono ?_; rintro e w3 ⟨na, nc, da, dc, rfl, S3⟩; (have S4 := S3.alloc [.int .i64 0, .int .i64 0, .slice none 0 0, .slice none 0 0] 28))
      | (refine wpList_store_sat (off := 0) (n := 4) rfl 28 _ _ rfl S4 rfl rfl rfl (by simp) Try.sizeQ (by simp [Value.oneCell']) ?_; intro w5 S5; rw [zstore4 (by rfl)] at S5; have r0 := S5.cell 0 rfl 0; have r1 := S5.cell 0 rfl 1; have r2 := S5.cell 0 rfl 2; have r3 := S5.cell 0 rfl 3; have t0 := S5.frozen 0 rfl 0; simp only [List.getElem?_cons_zero, List.getElem?_cons_succ] at r0 r1 r2 r3; have S6 := S5.setCell (k := 0) (v := .int .i64 qk) 0 rfl)
      | (refine wpList_load_part rfl 28 _ rfl (n := 4) rfl (Sat.whole S6 4) rfl Try.underlying28 rfl Try.sizeQ ?_)
      | (refine wpList_store_sat (off := 0) (n := 4) rfl 28 _ _ rfl (S6.sel [3]) rfl rfl rfl (by simp) Try.sizeQ (by simp [Value.oneCell']) ?_; intro w7 S7; rw [zstore4 (by rfl)] at S7))
    refine bodyPost_ret (results_cell_tmp_sat rfl _ S7 rfl Try.underlying28 rfl Try.sizeQ rfl) rfl ?_
    rw [HR2.out]
    exact ⟨na, nc, da, dc, rfl, S7.tail.tail⟩

def DecR (W0 : World) (L : List Asn) (r : Int × Int × List Int × List Int × Int) (e : Ending) (w' : World) : Prop :=
  ∃ na nc da dc, e = .returned (.tuple #[.agg #[.int .i64 r.2.1, .int .i64 r.1, .slice na r.2.2.1.length nc, .slice da r.2.2.2.1.length dc], .int .i64 r.2.2.2.2]) ∧ Sat W0 w' (nis na r.2.2.1.length nc r.2.2.1 :: sbs da r.2.2.2.1.length dc r.2.2.2.1 :: L)
theorem DecR_bad {W0 : World} {L : List Asn} {er : Int} {w' : World} (S : Sat W0 w' L) : DecR W0 L (0, 0, [], [], er) (.returned (.tuple #[.agg #[.int .i64 0, .int .i64 0, .slice none 0 0, .slice none 0 0], .int .i64 er])) w' :=
  ⟨none, 0, none, 0, rfl, Sat.own_none.2 ⟨rfl, rfl, rfl, Sat.own_none.2 ⟨rfl, rfl, rfl, S⟩⟩⟩

set_option maxRecDepth 100000 in
set_option maxHeartbeats 6400000 in
theorem wDecodeReply_any {W0 w : World} {L : List Asn} (S : Sat W0 w L) {a : Option Addr} {m c : Nat} {xs : List Int} (hR : ∀ w', Sat W0 w' L → Rd w' a (bv xs)) (hm : xs.length = m) (hB : Bytes xs) (hmc : m ≤ c) (hb : m ≤ 1000000000) :
    Calls Try.prog 20 #[.slice a m c] w (DecR W0 L (takeP 82 0 100 32768 xs)) := by
  have S1 := S.alloc [.int .i64 0, .int .i64 0, .slice none 0 0, .slice none 0 0] 46
  have HT : Hid (takeP 82 0 100 32768 xs = _) := take_of_read
  have hkb := part_kind (open_bytes hB)
  have HF := Lib.hid (fun (w' : World) (L' : List Asn) (h : Sat W0 w' L') (hL : ∀ w', Sat W0 w' L' → Sat W0 w' L) => read_any h (c := c) (fun w' h => hR w' (hL w' h)) hm hB hmc hb 82 32768 (by omega))
  generalize takeP 82 0 100 32768 xs = R at HT ⊢
  generalize readP 82 32768 xs = er at HF HT
  generalize partsOf (openF xs).1 = q at HF HT hkb
  obtain ⟨qm, qk, qs, qn, ns, dt, qf⟩ := q
  simp only at HF HT hkb
  clear hR hm hB
  by_cases her : er = 0
  case neg =>
    have HR2 : Hid (R = (0, 0, [], [], er)) := by show R = _; rw [HT.out, if_pos her]
    have he1 : (er == 0) = false := by simpa using her
    have he2 : (er != 0) = true := by simpa using her
    have HF2 := Lib.hid (fun (w' : World) (L' : List Asn) (h : Sat W0 w' L') (hL : ∀ w', Sat W0 w' L' → Sat W0 w' L) => (HF.out w' L' h hL).mono (fun e w'' h => h.elim (fun h => h.2) (fun h => absurd h.1 her)))
    clear HT her HF
    go_enter Try.func20, Try.ntmps20
    go_wp2_with (first
      | (go_at_call 28; refine (HF2.out _ _ S1 (fun w' h => h.tail)).mono ?_; rintro e w3 ⟨x, hxl, hx1, rfl, S3⟩; (have S4 := S3.alloc [.int .i64 0, .int .i64 0, .slice none 0 0, .slice none 0 0] 28; have HXL := Lib.hid hxl; have HX1 := Lib.hid hx1; clear hx1))
      | (refine wpList_store_sat (off := 0) (n := 4) rfl 28 _ _ rfl S4 rfl rfl HXL.out (by simp) Try.sizeQ HX1.out ?_; intro w5 S5)
      | (refine wpList_store_sat (off := 0) (n := 4) rfl 46 _ _ rfl (S5.sel [1]) rfl rfl (by rfl) (by simp) Try.sizeP (by simp [Value.oneCell']) ?_; intro w7 S7; rw [zstore4 (by rfl)] at S7))
    refine bodyPost_ret (results_cell_tmp_sat rfl _ S7 rfl Try.underlying46 rfl Try.sizeP rfl) rfl ?_
    rw [HR2.out]
    exact DecR_bad S7.tail.tail
  subst her
  have HF2 := Lib.hid (fun (w' : World) (L' : List Asn) (h : Sat W0 w' L') (hL : ∀ w', Sat W0 w' L' → Sat W0 w' L) => (HF.out w' L' h hL).mono (fun e w'' h => h.elim (fun h => absurd rfl h.1) (fun h => h.2)))
  clear HF
  have hR1 := HT.out
  rw [if_neg (by simp)] at hR1
  by_cases hk : qk < 0 ∨ 100 < qk
  · have HR2 : Hid (R = (0, 0, [], [], 3)) := by show R = _; rw [hR1, if_pos hk]
    clear HT hR1
    by_cases hk1 : qk < 0
    · omega
    · have hd1 : decide (qk < 0) = false := decide_eq_false hk1
      have hd2 : decide (100 < qk) = true := decide_eq_true (by omega)
      clear hk hk1
      go_enter Try.func20, Try.ntmps20
      go_wp2_with (first
        | (go_at_call 28; refine (HF2.out _ _ S1 (fun w' h => h.tail)).mono ?_; rintro e w3 ⟨na, nc, da, dc, rfl, S3⟩; (have S4 := S3.alloc [.int .i64 0, .int .i64 0, .slice none 0 0, .slice none 0 0] 28))
        | (refine wpList_store_sat (off := 0) (n := 4) rfl 28 _ _ rfl S4 rfl rfl rfl (by simp) Try.sizeQ (by simp [Value.oneCell']) ?_; intro w5 S5; rw [zstore4 (by rfl)] at S5)
        | (refine wpList_store_sat (off := 0) (n := 4) rfl 46 _ _ rfl (S5.sel [3]) rfl rfl (by rfl) (by simp) Try.sizeP (by simp [Value.oneCell']) ?_; intro w7 S7; rw [zstore4 (by rfl)] at S7))
      refine bodyPost_ret (results_cell_tmp_sat rfl _ S7 rfl Try.underlying46 rfl Try.sizeP rfl) rfl ?_
      rw [HR2.out]
      exact DecR_bad S7.tail.tail.tail.tail
  · have HR2 : Hid (R = (qk, qs, ns, dt, 0)) := by show R = _; rw [hR1, if_neg hk]
    have hd1 : decide (qk < 0) = false := decide_eq_false (by omega)
    have hd2 : decide (100 < qk) = false := decide_eq_false (by omega)
    clear HT hR1
    go_enter Try.func20, Try.ntmps20
    go_wp2_with (first
      | (go_at_call 28; refine (HF2.out _ _ S1 (fun w' h => h.tail)).mono ?_; rintro e w3 ⟨na, nc, da, dc, rfl, S3⟩; (have S4 := S3.alloc [.int .i64 0, .int .i64 0, .slice none 0 0, .slice none 0 0] 28))
      | (refine wpList_store_sat (off := 0) (n := 4) rfl 28 _ _ rfl S4 rfl rfl rfl (by simp) Try.sizeQ (by simp [Value.oneCell']) ?_; intro w5 S5; rw [zstore4 (by rfl)] at S5; have r0 := S5.cell 0 rfl 0; have r1 := S5.cell 0 rfl 1; have r2 := S5.cell 0 rfl 2; have r3 := S5.cell 0 rfl 3; have t0 := S5.frozen 0 rfl 0; simp only [List.getElem?_cons_zero, List.getElem?_cons_succ] at r0 r1 r2 r3; have S6x := S5.setCell (k := 0) (v := .int .i64 qk) 0 rfl)
      | (refine wpList_store_sat (off := 0) (n := 4) rfl 46 _ _ rfl (S5.sel [3]) rfl rfl rfl (by simp) Try.sizeP (by simp [Value.oneCell']) ?_; intro w7 S7; rw [zstore4 (by rfl)] at S7))
    refine bodyPost_ret (results_cell_tmp_sat rfl _ S7 rfl Try.underlying46 rfl Try.sizeP rfl) rfl ?_
    rw [HR2.out]
    exact ⟨na, nc, da, dc, rfl, S7.tail.tail⟩

end Go.Proofs.Ytlkmnbnphgfppaa
