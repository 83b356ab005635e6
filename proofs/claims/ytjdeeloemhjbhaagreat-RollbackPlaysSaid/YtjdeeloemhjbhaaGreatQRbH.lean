/-
  RbE, RbE2, RbE3, RbE4, RbE5, RbE6, RbH in one text (wip/tools/squeeze.py)
-/
import Derived.Test.YtjdeeloemhjbhaaGreatQRbD1
import Derived.Test.YtjdeeloemhjbhaaGreatQRbY
import Derived.Test.YtjdeeloemhjbhaaGreatQInpR3

section
namespace Go.Proofs.YtjdeeloemhjbhaaGreat
open Go.RowKit Go.Sep Go.Oct Go.Vm Go.Inp
set_option linter.unusedSimpArgs false

theorem pv_pairsv : ∀ l : List (Int × Int), pv l = pairsv l
  | [] => rfl
  | x :: r => by
    rw [show pairsv (x :: r) = .int .u16 x.1 :: .int .u16 x.2 :: pairsv r from rfl, ← pv_pairsv r]; rfl
set_option maxRecDepth 100000 in
theorem rboth_any {W0 w : World} {L : List Asn} {p : Nat} {q : PQ} (S : Sat W0 w (RQu p q :: L)) (hq : q.ok) :
    Calls Tryz.prog 41 #[.pointer (some ⟨p, 0, none⟩)] w fun e w' => e = .returned (.int .i64 q.both) ∧ w = w' := by
  have h0 : Hid (q.known 0 = lead q.r0.kn) := by show _ = _; unfold PQ.known; rw [if_pos rfl]
  have h1 : Hid (q.known 1 = lead q.r1.kn) := by show _ = _; unfold PQ.known; rw [if_neg (by decide), if_pos rfl]
  by_cases hle : lead q.r0.kn ≤ lead q.r1.kn
  · have HB : Hid (q.both = lead q.r0.kn) := by show _ = _; unfold PQ.both; omega
    go_enter Tryz.func41, Tryz.ntmps41
    go_wp2_with (first | (go_at_call_of 43 (Value.int .i64 0); refine (rknown_any S hq 0).mono ?_; rintro e w1 ⟨rfl, rfl⟩; rw [h0.out]) | (go_at_call_of 43 (Value.int .i64 1); refine (rknown_any S hq 1).mono ?_; rintro e w1 ⟨rfl, rfl⟩; rw [h1.out]))
    go_ret
    exact ⟨by rw [HB.out]; rfl, rfl⟩
  · have HB : Hid (q.both = lead q.r1.kn) := by show _ = _; unfold PQ.both; omega
    go_enter Tryz.func41, Tryz.ntmps41
    go_wp2_with (first | (go_at_call_of 43 (Value.int .i64 0); refine (rknown_any S hq 0).mono ?_; rintro e w1 ⟨rfl, rfl⟩; rw [h0.out]) | (go_at_call_of 43 (Value.int .i64 1); refine (rknown_any S hq 1).mono ?_; rintro e w1 ⟨rfl, rfl⟩; rw [h1.out]))
    go_ret
    exact ⟨by rw [HB.out]; rfl, rfl⟩

/-- the document's cells -/
def dcv (a : Option Addr) (n c : Nat) (K : SK) (qp : Nat) (s : PS) : List Value := [.slice a n c, .int .i64 K.cap, .int .i64 K.fuel, .int .u32 K.seed, .int .i64 K.me, .pointer (some ⟨qp, 0, none⟩), .int .i64 s.d, .int .i64 s.st, .int .i64 s.wr]
/-- what holds of both sides' Session, plain -/
structure SK.Good (K : SK) (s : PS) (c : Nat) : Prop where
  hk : checkP K.code K.cap K.fuel = 0
  hs : 0 ≤ K.seed ∧ K.seed < 4294967296
  qo : s.q.ok
  qr : RBQ s.q
  qn : (s.q.n : Int) = K.cap
  seat : Seat K.me
  own : ∀ k, isKn (s.q.row K.me) k = decide (k < s.d)
  dn : s.d ≤ s.q.n
  st : 0 ≤ s.st ∧ s.st ≤ 1000 * c
  wr : 0 ≤ s.wr ∧ s.wr ≤ c
theorem SS_good {W0 w : World} {L : List Asn} {g : Nat} {K : SK} {s : PS} {c : Nat} (S : Sat W0 w (SS g K s c :: L)) : K.Good s c := by
  obtain ⟨r, ring, lo, hi, u, n, m, h, S1⟩ := SS_open.1 S
  have h1 := h.st
  have h2 := h.inv.st
  exact ⟨h.hk, h.hs, h.qo, h.qr, h.qn, h.seat, h.own, h.dn, ⟨by rw [← h1.1]; exact h2.1, h1.2⟩, h.wr.2⟩
def Useds (W0 : World) (L : List Asn) (q : PQ) (n : Nat) (e : Ending) (w' : World) : Prop := ∃ ao cap, e = .returned (.slice ao n cap) ∧ Sat W0 w' (sps ao n cap (usedQ q n) :: L)

set_option maxRecDepth 100000 in
set_option maxHeartbeats 3200000 in
theorem dUsed_any {W0 w : World} {L : List Asn} {g qp : Nat} {a : Option Addr} {n c : Nat} {K : SK} {s : PS} (S : Sat W0 w (blk g (dcv a n c K qp s) 64 :: RQu qp s.q :: L)) (hq : s.q.ok) {m : Nat} (hm : m ≤ 600) :
    Calls Tryz.prog 40 #[.pointer (some ⟨g, 0, none⟩), .int .i64 m] w (Useds W0 (blk g (dcv a n c K qp s) 64 :: RQu qp s.q :: L) s.q m) := by
  obtain ⟨i0, hi, hz0, hz1, hz2⟩ := info_parts Tryz.infoP
  go_enter Tryz.func40, Tryz.ntmps40
  go_wp2_with fail
  go_loopw [5, 6] (fun lv iv wr => ∃ (k : Nat) (ao : Option Addr) (cap : Nat), k ≤ m ∧ iv = .int .i64 k ∧ lv = .slice ao k cap ∧ Sat W0 wr (sps ao k cap (usedQ s.q k) :: blk g (dcv a n c K qp s) 64 :: RQu qp s.q :: L)) (fun _ iv _ => m - (intOf iv).toNat)
  case atStart => exact ⟨0, none, 0, by omega, rfl, rfl, Sat.own_none.2 ⟨rfl, rfl, rfl, S⟩⟩
  case round =>
    clear S
    obtain ⟨k, ao, cap, hk, rfl, rfl, S1⟩ := hrel
    by_cases hlt : k < m
    · have hd : decide ((k : Int) < (m : Int)) = true := decide_eq_true (by omega)
      have hd' : decide (k < m) = true := decide_eq_true hlt
      have c5 : wr.cell? ⟨g, 5, none⟩ = some (.pointer (some ⟨qp, 0, none⟩)) := S1.cell 1 rfl 5
      obtain ⟨A, hA⟩ : ∃ A, s.q.get 0 (k : Int) = A := ⟨_, rfl⟩
      obtain ⟨B, hB⟩ : ∃ B, s.q.get 1 (k : Int) = B := ⟨_, rfl⟩
      have HA := Lib.hid hA
      have HB := Lib.hid hB
      clear hA hB
      go_wp2_with (first
        | (at_builtin; refine wpList_append_sat rfl _ _ _ rfl 43 i0 _ 2 4 Tryz.underlying41 hi hz0 hz1 hz2 rfl (by decide) ((S1.alloc [.int .u16 A.1, .int .u16 B.1] 43).swap) rfl rfl (Rd.lit (heap_alloc_new wr _)) rfl (by simp [Value.oneCell']) (by unfold maxLen; omega) (by omega) ?_; intro ao' cap' w2 S3)
        | (go_at_call_of 39 (Value.int .i64 0); refine (rget_any (S1.sel [2]) hq 0 k).mono ?_; rintro e w1 ⟨rfl, rfl⟩; rw [HA.out])
        | (go_at_call_of 39 (Value.int .i64 1); refine (rget_any (S1.sel [2]) hq 1 k).mono ?_; rintro e w1 ⟨rfl, rfl⟩; rw [HB.out]))
      have e2 : pv (usedQ s.q (k + 1)) = pv (usedQ s.q k) ++ [.int .u16 A.1, .int .u16 B.1] := by
        rw [usedQ_succ, pv_append, HA.out, HB.out]; rfl
      have S4 : Sat W0 w2 (sps ao' (k + 1) cap' (usedQ s.q (k + 1)) :: blk g (dcv a n c K qp s) 64 :: RQu qp s.q :: L) := by
        unfold sps
        rw [e2]
        exact (S3.sel [1]).tail
      exact ⟨⟨k + 1, ao', cap', by omega, by go_num, rfl, S4⟩, by simp [intOf]; omega⟩
    · have hd : decide ((k : Int) < (m : Int)) = false := decide_eq_false (by omega)
      have hd' : decide (k < m) = false := decide_eq_false hlt
      obtain rfl : k = m := by omega
      go_wp2_with fail
      go_ret
      exact ⟨ao, cap, rfl, S1⟩
end Go.Proofs.YtjdeeloemhjbhaaGreat
end

section
namespace Go.Proofs.YtjdeeloemhjbhaaGreat
open Go.RowKit Go.Sep Go.Oct Go.Vm Go.Inp
set_option linter.unusedSimpArgs false

theorem play_stL {code : List (Int × Int)} {cap fuel seed : Int} (hk : checkP code cap fuel = 0) (l : List (Int × Int)) : playP code cap fuel seed l = (stL code cap fuel seed l, 0) := by
  unfold playP; rw [if_pos hk]; rfl
/-- the document's cells that are looked at -/
structure DAt (w : World) (g : Nat) (a : Option Addr) (n c : Nat) (J : SK) (qp : Nat) (s : PS) : Prop where
  game : ∀ j, j < 3 → w.cell? ⟨g, 0 + j, none⟩ = ([.slice a n c, .int .i64 J.cap, .int .i64 J.fuel] : List Value)[j]?
  cap : w.cell? ⟨g, 1, none⟩ = some (.int .i64 J.cap)
  seed : w.cell? ⟨g, 3, none⟩ = some (.int .u32 J.seed)
  me : w.cell? ⟨g, 4, none⟩ = some (.int .i64 J.me)
  qp : w.cell? ⟨g, 5, none⟩ = some (.pointer (some ⟨qp, 0, none⟩))
  d : w.cell? ⟨g, 6, none⟩ = some (.int .i64 s.d)
  st : w.cell? ⟨g, 7, none⟩ = some (.int .i64 s.st)
  wr : w.cell? ⟨g, 8, none⟩ = some (.int .i64 s.wr)
  fz : ∀ k, w.frozen? ⟨g, k, none⟩ = false
theorem d_at {W0 w : World} {L : List Asn} {g : Nat} {a : Option Addr} {n c : Nat} {J : SK} {qp : Nat} {s : PS} (S : Sat W0 w (blk g (dcv a n c J qp s) 64 :: L)) : DAt w g a n c J qp s := by
  refine ⟨fun j hj => ?_, S.cell 0 rfl 1, S.cell 0 rfl 3, S.cell 0 rfl 4, S.cell 0 rfl 5, S.cell 0 rfl 6, S.cell 0 rfl 7, S.cell 0 rfl 8, fun k => S.frozen 0 rfl k⟩
  rw [S.cell 0 rfl, Nat.zero_add]
  match j, hj with
  | 0, _ => rfl
  | 1, _ => rfl
  | 2, _ => rfl

set_option maxRecDepth 100000 in
set_option maxHeartbeats 6400000 in
theorem dNow_any {W0 w : World} {L : List Asn} {g qp : Nat} {a : Option Addr} {n c : Nat} {J : SK} {s : PS} {cc : Nat} (S : Sat W0 w (blk g (dcv a n c J qp s) 64 :: RQu qp s.q :: L)) (G : J.Good s cc) (hRD : ∀ (M : List Asn) (w' : World), Sat W0 w' M → Rd w' a (insv J.code)) (hn : J.code.length = n) :
    Calls Tryz.prog 20 #[.pointer (some ⟨g, 0, none⟩)] w fun e w' => e = .returned (.agg (svals (J.now s)).toArray) ∧ Sat W0 w' (blk g (dcv a n c J qp s) 64 :: RQu qp s.q :: L) := by
  have S1 := S.alloc [.int .i64 0, .int .i32 0, .int .i32 0, .int .i32 0, .int .i32 0, .int .i32 0, .int .i32 0, .int .i32 0, .int .i32 0, .int .i32 0, .int .i32 0, .int .i32 0, .int .i32 0, .int .i32 0, .int .i32 0, .int .i32 0, .int .i32 0, .int .u32 0, .bool false, .int .i64 0] 46
  have S2 : Sat W0 _ (blk g (dcv a n c J qp s) 64 :: RQu qp s.q :: blk w.heap.size [.int .i64 0, .int .i32 0, .int .i32 0, .int .i32 0, .int .i32 0, .int .i32 0, .int .i32 0, .int .i32 0, .int .i32 0, .int .i32 0, .int .i32 0, .int .i32 0, .int .i32 0, .int .i32 0, .int .i32 0, .int .i32 0, .int .i32 0, .int .u32 0, .bool false, .int .i64 0] 46 :: L) := S1.sel [1, 1]
  have hcl := (check_ok G.hk).1
  have hcap := (check_ok G.hk).2.2.2.1
  have hd6 : s.d ≤ 600 := by have := G.dn; have := G.qn; omega
  have hN : playP J.code J.cap J.fuel J.seed (usedQ s.q s.d) = (J.now s, 0) := play_stL G.hk _
  have hok := (stA_goes G.hk G.hs (rbq_qb G.qr) s.d).1.ok
  change (J.now s).Ok at hok
  obtain ⟨N, hNN⟩ : ∃ N, J.now s = N := ⟨_, rfl⟩
  rw [hNN] at hN hok ⊢
  have HPL := Lib.hid hN
  have HNL := Lib.hid (svals_length hok.len)
  have HRD : Hid (∀ (M : List Asn) (w' : World), Sat W0 w' M → Rd w' a (insv J.code)) := hRD
  have HN := Lib.hid hn
  have HG := Lib.hid G
  have hnm : n ≤ maxLen := by unfold maxLen; omega
  clear S S1 hN hNN hok hn hcl hcap hRD G
  go_enter Tryz.func20, Tryz.ntmps20
  go_upto_region 1 with fail
  change Sat W0 (World.alloc w _) _ at S2
  generalize World.alloc w _ = w2 at S2 ⊢
  generalize w.heap.size = z at S2 ⊢
  have S4 := S2.drew
  go_cut [3] (fun v3 wx => ∃ y, v3 = .pointer (some ⟨y, 0, none⟩) ∧ Sat W0 wx (blk y (svals N) 46 :: blk g (dcv a n c J qp s) 64 :: RQu qp s.q :: blk z [.int .i64 0, .int .i32 0, .int .i32 0, .int .i32 0, .int .i32 0, .int .i32 0, .int .i32 0, .int .i32 0, .int .i32 0, .int .i32 0, .int .i32 0, .int .i32 0, .int .i32 0, .int .i32 0, .int .i32 0, .int .i32 0, .int .i32 0, .int .u32 0, .bool false, .int .i64 0] 46 :: L))
  case first =>
    refine wp_region_drawn (N := 21) (LN := #[false, false, false, false, false, false, false, false, false, false, false, false, false, false, false, false, false, false, false, false, false]) (by kernel_rfl) (by kernel_rfl) (by kernel_rfl) ?_
    refine wpAny_held (fun w' => (∀ j, j < 3 → w'.cell? ⟨g, 0 + j, none⟩ = ([.slice a n c, .int .i64 J.cap, .int .i64 J.fuel] : List Value)[j]?) ∧ w'.cell? ⟨g, 3, none⟩ = some (.int .u32 J.seed) ∧ w'.cell? ⟨g, 6, none⟩ = some (.int .i64 s.d)) ⟨(d_at S4).game, (d_at S4).seed, (d_at S4).d⟩ (fun hHeld => ?_)
    refine wpAnyH_tk (i := 0) (v := ?_) (LN := #[true, false, false, false, false, false, false, false, false, false, false, false, false, false, false, false, false, false, false, false, false]) rfl (by kernel_rfl) (by kernel_rfl) (by kernel_rfl) (fun _ _ _ h => h) (by kernel_rfl) (by rfl) (by assumption) ?_ ?_
    rotate_left
    · intro w hSw; (try dsimp only at hSw); first | (go_simp; done) | (go_simp; with_reducible rfl)
    try simp only [Act.put, List.getElem_toArray, List.getElem_cons_zero, List.getElem_cons_succ, List.setIfInBounds_toArray, List.set_cons_zero, List.set_cons_succ]
    refine wpAnyH_tk (i := 1) (v := ?_) (LN := #[true, true, false, false, false, false, false, false, false, false, false, false, false, false, false, false, false, false, false, false, false]) rfl (by kernel_rfl) (by kernel_rfl) (by kernel_rfl) (fun _ _ _ h => h) (by kernel_rfl) (by rfl) (by assumption) ?_ ?_
    rotate_left
    · intro w hSw; (try dsimp only at hSw); first | (go_simp; done) | (go_simp; with_reducible rfl)
    try simp only [Act.put, List.getElem_toArray, List.getElem_cons_zero, List.getElem_cons_succ, List.setIfInBounds_toArray, List.set_cons_zero, List.set_cons_succ]
    refine wpAnyH_tk (i := 2) (v := ?_) (LN := #[true, true, true, false, false, false, false, false, false, false, false, false, false, false, false, false, false, false, false, false, false]) rfl (by kernel_rfl) (by kernel_rfl) (by kernel_rfl) (fun _ _ _ h => h) (by kernel_rfl) (by rfl) (by assumption) ?_ ?_
    rotate_left
    · intro w hSw; (try dsimp only at hSw); first | (go_simp; done) | (go_simp; with_reducible rfl)
    try simp only [Act.put, List.getElem_toArray, List.getElem_cons_zero, List.getElem_cons_succ, List.setIfInBounds_toArray, List.set_cons_zero, List.set_cons_succ]
    refine wpAnyH_tk (i := 3) (LN := #[true, true, true, true, false, false, false, false, false, false, false, false, false, false, false, false, false, false, false, false, false]) rfl (by kernel_rfl) (by kernel_rfl) (by kernel_rfl) (fun _ _ _ h => h) (by kernel_rfl) (by rfl) (by assumption) (fun w h => run_load_part 24 _ rfl (g := g) (off := 0) (n := 3) rfl (h.1) rfl Tryz.underlying24 rfl (by kernel_rfl)) ?_
    try simp only [Act.put, List.getElem_toArray, List.getElem_cons_zero, List.getElem_cons_succ, List.setIfInBounds_toArray, List.set_cons_zero, List.set_cons_succ]
    refine wpAnyH_tk (i := 4) (v := ?_) (LN := #[true, true, true, true, true, false, false, false, false, false, false, false, false, false, false, false, false, false, false, false, false]) rfl (by kernel_rfl) (by kernel_rfl) (by kernel_rfl) (fun _ _ _ h => h) (by kernel_rfl) (by rfl) (by assumption) ?_ ?_
    rotate_left
    · intro w hSw; (try dsimp only at hSw); first | (go_simp; done) | (go_simp; with_reducible rfl)
    try simp only [Act.put, List.getElem_toArray, List.getElem_cons_zero, List.getElem_cons_succ, List.setIfInBounds_toArray, List.set_cons_zero, List.set_cons_succ]
    refine wpAnyH_tk (i := 5) (v := ?_) (LN := #[true, true, true, true, true, true, false, false, false, false, false, false, false, false, false, false, false, false, false, false, false]) rfl (by kernel_rfl) (by kernel_rfl) (by kernel_rfl) (fun _ _ _ h => h) (by kernel_rfl) (by rfl) (by assumption) ?_ ?_
    rotate_left
    · intro w hSw; (try dsimp only at hSw); first | (go_simp; done) | (go_simp; with_reducible rfl)
    try simp only [Act.put, List.getElem_toArray, List.getElem_cons_zero, List.getElem_cons_succ, List.setIfInBounds_toArray, List.set_cons_zero, List.set_cons_succ]
    refine wpAnyH_tk (i := 6) (v := ?_) (LN := #[true, true, true, true, true, true, true, false, false, false, false, false, false, false, false, false, false, false, false, false, false]) rfl (by kernel_rfl) (by kernel_rfl) (by kernel_rfl) (fun _ _ _ h => h) (by kernel_rfl) (by rfl) (by assumption) ?_ ?_
    rotate_left
    · intro w hSw; (try dsimp only at hSw); first | (go_simp; done) | (go_simp; with_reducible rfl)
    try simp only [Act.put, List.getElem_toArray, List.getElem_cons_zero, List.getElem_cons_succ, List.setIfInBounds_toArray, List.set_cons_zero, List.set_cons_succ]
    refine wpAnyH_tk (i := 7) (v := ?_) (LN := #[true, true, true, true, true, true, true, true, false, false, false, false, false, false, false, false, false, false, false, false, false]) rfl (by kernel_rfl) (by kernel_rfl) (by kernel_rfl) (fun _ _ _ h => h) (by kernel_rfl) (by rfl) (by assumption) ?_ ?_
    rotate_left
    · intro w hSw; (try dsimp only at hSw); first | (go_simp; done) | (go_simp; with_reducible rfl)
    try simp only [Act.put, List.getElem_toArray, List.getElem_cons_zero, List.getElem_cons_succ, List.setIfInBounds_toArray, List.set_cons_zero, List.set_cons_succ]
    refine wpAnyH_tk (i := 8) (v := ?_) (LN := #[true, true, true, true, true, true, true, true, true, false, false, false, false, false, false, false, false, false, false, false, false]) rfl (by kernel_rfl) (by kernel_rfl) (by kernel_rfl) (fun _ _ _ h => h) (by kernel_rfl) (by rfl) (by assumption) ?_ ?_
    rotate_left
    · intro w hSw; (try dsimp only at hSw); first | (go_simp; done) | (go_simp; with_reducible rfl)
    try simp only [Act.put, List.getElem_toArray, List.getElem_cons_zero, List.getElem_cons_succ, List.setIfInBounds_toArray, List.set_cons_zero, List.set_cons_succ]
    refine wpAnyH_tk (i := 9) (v := ?_) (LN := #[true, true, true, true, true, true, true, true, true, true, false, false, false, false, false, false, false, false, false, false, false]) rfl (by kernel_rfl) (by kernel_rfl) (by kernel_rfl) (fun _ _ _ h => h) (by kernel_rfl) (by rfl) (by assumption) ?_ ?_
    rotate_left
    · intro w hSw; (try dsimp only at hSw); first | (go_simp; done) | (go_simp; with_reducible rfl)
    try simp only [Act.put, List.getElem_toArray, List.getElem_cons_zero, List.getElem_cons_succ, List.setIfInBounds_toArray, List.set_cons_zero, List.set_cons_succ]
    refine wpAnyH_tk (i := 10) (v := ?_) (LN := #[true, true, true, true, true, true, true, true, true, true, true, false, false, false, false, false, false, false, false, false, false]) rfl (by kernel_rfl) (by kernel_rfl) (by kernel_rfl) (fun _ _ _ h => h) (by kernel_rfl) (by rfl) (by assumption) ?_ ?_
    rotate_left
    · intro w hSw; (try dsimp only at hSw); first | (go_simp; done) | (go_simp; with_reducible rfl)
    try simp only [Act.put, List.getElem_toArray, List.getElem_cons_zero, List.getElem_cons_succ, List.setIfInBounds_toArray, List.set_cons_zero, List.set_cons_succ]
    refine wpAnyH_tk (i := 11) (v := ?_) (LN := #[true, true, true, true, true, true, true, true, true, true, true, true, false, false, false, false, false, false, false, false, false]) rfl (by kernel_rfl) (by kernel_rfl) (by kernel_rfl) (fun _ _ _ h => h) (by kernel_rfl) (by rfl) (by assumption) ?_ ?_
    rotate_left
    · intro w hSw; (try dsimp only at hSw); first | (go_simp; done) | (go_simp; with_reducible rfl)
    try simp only [Act.put, List.getElem_toArray, List.getElem_cons_zero, List.getElem_cons_succ, List.setIfInBounds_toArray, List.set_cons_zero, List.set_cons_succ]
    refine wpAnyH_tk (i := 12) (v := ?_) (LN := #[true, true, true, true, true, true, true, true, true, true, true, true, true, false, false, false, false, false, false, false, false]) rfl (by kernel_rfl) (by kernel_rfl) (by kernel_rfl) (fun _ _ _ h => h) (by kernel_rfl) (by rfl) (by assumption) ?_ ?_
    rotate_left
    · intro w hSw; (try dsimp only at hSw); first | (go_simp; done) | (go_simp; with_reducible rfl)
    try simp only [Act.put, List.getElem_toArray, List.getElem_cons_zero, List.getElem_cons_succ, List.setIfInBounds_toArray, List.set_cons_zero, List.set_cons_succ]
    refine wpAnyH_two (i := 13) (j := 18) (Li := #[true, true, true, true, true, true, true, true, true, true, true, true, true, true, false, false, false, false, false, false, false]) (Lj := #[true, true, true, true, true, true, true, true, true, true, true, true, true, false, false, false, false, false, true, false, false]) (by kernel_rfl) rfl rfl (by kernel_rfl) (by kernel_rfl) ?_ ?_
    · intro K hK
      go_simp
      go_at_call 40
      first
        | (refine (dUsed_any S4 HG.out.qo hd6).mono ?_; unfold Useds; rintro e w9 ⟨ao, cp, rfl, Sc1⟩)
        | (refine (dUsed_any (S4.sel [1, 1]) HG.out.qo hd6).mono ?_; unfold Useds; rintro e w9 ⟨ao, cp, rfl, Sx⟩; have Sc1 := Sx.sel [0, 2])
      go_wp2_with fail
      refine hK.out _ _ ⟨(d_at (Sc1.sel [1])).game, (d_at (Sc1.sel [1])).seed, (d_at (Sc1.sel [1])).d⟩ ?_
      clear hK K hHeld
      intro hHeld
      try simp only [Act.put, List.getElem_toArray, List.getElem_cons_zero, List.getElem_cons_succ, List.setIfInBounds_toArray, List.set_cons_zero, List.set_cons_succ]
      refine wpAnyH_two (i := 14) (j := 18) (Li := #[true, true, true, true, true, true, true, true, true, true, true, true, true, true, true, false, false, false, false, false, false]) (Lj := #[true, true, true, true, true, true, true, true, true, true, true, true, true, true, false, false, false, false, true, false, false]) (by kernel_rfl) rfl rfl (by kernel_rfl) (by kernel_rfl) ?_ ?_
      · intro K hK
        go_simp
        go_at_call 13
        refine (r11play_any Sc1 (fun w' h => HRD.out _ _ h) HN.out hnm J.cap J.fuel J.seed HG.out.hs (fun w' h => by rw [← pv_pairsv]; exact h.own_rd) (usedQ_length _ _) (by omega) (usedQ_u16 (rbq_qb HG.out.qr) _)).mono ?_
        unfold Stepped
        rw [HPL.out]
        rintro e w11 ⟨rfl, Sc2⟩
        go_wp2_with fail
        refine hK.out _ _ ⟨(d_at (Sc2.sel [1])).game, (d_at (Sc2.sel [1])).seed, (d_at (Sc2.sel [1])).d⟩ ?_
        clear hK K hHeld
        intro hHeld
        try simp only [Act.put, List.getElem_toArray, List.getElem_cons_zero, List.getElem_cons_succ, List.setIfInBounds_toArray, List.set_cons_zero, List.set_cons_succ]
        refine wpAnyH_tk (i := 15) (v := ?_) (LN := #[true, true, true, true, true, true, true, true, true, true, true, true, true, true, true, true, false, false, false, false, false]) rfl (by kernel_rfl) (by kernel_rfl) (by kernel_rfl) (fun _ _ _ h => h) (by kernel_rfl) (by rfl) (by assumption) ?_ ?_
        rotate_left
        · intro w hSw; (try dsimp only at hSw); first | (go_simp; done) | (go_simp; with_reducible rfl)
        try simp only [Act.put, List.getElem_toArray, List.getElem_cons_zero, List.getElem_cons_succ, List.setIfInBounds_toArray, List.set_cons_zero, List.set_cons_succ]
        refine wpAnyH_tk (i := 16) (v := ?_) (LN := #[true, true, true, true, true, true, true, true, true, true, true, true, true, true, true, true, true, false, false, false, false]) rfl (by kernel_rfl) (by kernel_rfl) (by kernel_rfl) (fun _ _ _ h => h) (by kernel_rfl) (by rfl) (by assumption) ?_ ?_
        rotate_left
        · intro w hSw; (try dsimp only at hSw); first | (go_simp; done) | (go_simp; with_reducible rfl)
        try simp only [Act.put, List.getElem_toArray, List.getElem_cons_zero, List.getElem_cons_succ, List.setIfInBounds_toArray, List.set_cons_zero, List.set_cons_succ]
        refine wpAnyH_tk (i := 17) (v := ?_) (LN := #[true, true, true, true, true, true, true, true, true, true, true, true, true, true, true, true, true, true, false, false, false]) rfl (by kernel_rfl) (by kernel_rfl) (by kernel_rfl) (fun _ _ _ h => h) (by kernel_rfl) (by rfl) (by assumption) ?_ ?_
        rotate_left
        · intro w hSw; (try dsimp only at hSw); first | (go_simp; done) | (go_simp; with_reducible rfl)
        try simp only [Act.put, List.getElem_toArray, List.getElem_cons_zero, List.getElem_cons_succ, List.setIfInBounds_toArray, List.set_cons_zero, List.set_cons_succ]
        refine wpAnyH_one (i := 18) (LN := #[true, true, true, true, true, true, true, true, true, true, true, true, true, true, true, true, true, true, true, false, false]) (by kernel_rfl) rfl (by kernel_rfl) ?_
        intro K hK
        go_simp
        have Sc3 := (Sc2.alloc [.int .i64 0, .int .i32 0, .int .i32 0, .int .i32 0, .int .i32 0, .int .i32 0, .int .i32 0, .int .i32 0, .int .i32 0, .int .i32 0, .int .i32 0, .int .i32 0, .int .i32 0, .int .i32 0, .int .i32 0, .int .i32 0, .int .i32 0, .int .u32 0, .bool false, .int .i64 0] 46).swap
        try simp only [World.size_alloc] at Sc3
        refine hK.out _ _ ⟨(d_at (Sc3.sel [2])).game, (d_at (Sc3.sel [2])).seed, (d_at (Sc3.sel [2])).d⟩ ?_
        clear hK K hHeld
        intro hHeld
        try simp only [Act.put, List.getElem_toArray, List.getElem_cons_zero, List.getElem_cons_succ, List.setIfInBounds_toArray, List.set_cons_zero, List.set_cons_succ]
        refine wpAnyH_one (i := 19) (LN := #[true, true, true, true, true, true, true, true, true, true, true, true, true, true, true, true, true, true, true, true, false]) (by kernel_rfl) rfl (by kernel_rfl) ?_
        intro K hK
        refine step_store_sat (off := 0) (n := 20) rfl 46 _ _ rfl Sc3.tail rfl rfl HNL.out (by decide) Tryz.sizeS (svals_one N) ?_
        intro w12 SF
        rw [zstore] at SF
        refine hK.out _ _ ⟨(d_at (SF.sel [1])).game, (d_at (SF.sel [1])).seed, (d_at (SF.sel [1])).d⟩ ?_
        clear hK K hHeld
        intro hHeld
        try simp only [Act.put, List.getElem_toArray, List.getElem_cons_zero, List.getElem_cons_succ, List.setIfInBounds_toArray, List.set_cons_zero, List.set_cons_succ]
        refine wpAnyH_tk (i := 20) (v := ?_) (LN := #[true, true, true, true, true, true, true, true, true, true, true, true, true, true, true, true, true, true, true, true, true]) rfl (by kernel_rfl) (by kernel_rfl) (by kernel_rfl) (fun _ _ _ h => h) (by kernel_rfl) (by rfl) (by assumption) ?_ ?_
        rotate_left
        · intro w hSw; (try dsimp only at hSw); first | (go_simp; done) | (go_simp; with_reducible rfl)
        try simp only [Act.put, List.getElem_toArray, List.getElem_cons_zero, List.getElem_cons_succ, List.setIfInBounds_toArray, List.set_cons_zero, List.set_cons_succ]
        refine ⟨by kernel_rfl, ?_⟩
        try simp only [Act.put, List.getElem_toArray, List.getElem_cons_zero, List.getElem_cons_succ, List.setIfInBounds_toArray, List.set_cons_zero, List.set_cons_succ]
        go_wp2_with fail
        go_meet
        exact ⟨_, rfl, SF⟩
      · intro K hK
        go_simp
        have Sc2 := (Sc1.alloc [.int .i64 0, .int .i32 0, .int .i32 0, .int .i32 0, .int .i32 0, .int .i32 0, .int .i32 0, .int .i32 0, .int .i32 0, .int .i32 0, .int .i32 0, .int .i32 0, .int .i32 0, .int .i32 0, .int .i32 0, .int .i32 0, .int .i32 0, .int .u32 0, .bool false, .int .i64 0] 46).swap
        try simp only [World.size_alloc] at Sc2
        refine hK.out _ _ ⟨(d_at (Sc2.sel [2])).game, (d_at (Sc2.sel [2])).seed, (d_at (Sc2.sel [2])).d⟩ ?_
        clear hK K hHeld
        intro hHeld
        try simp only [Act.put, List.getElem_toArray, List.getElem_cons_zero, List.getElem_cons_succ, List.setIfInBounds_toArray, List.set_cons_zero, List.set_cons_succ]
        refine wpAnyH_one (i := 14) (LN := #[true, true, true, true, true, true, true, true, true, true, true, true, true, true, true, false, false, false, true, false, false]) (by kernel_rfl) rfl (by kernel_rfl) ?_
        intro K hK
        go_simp
        go_at_call 13
        refine (r11play_any Sc2 (fun w' h => HRD.out _ _ h) HN.out hnm J.cap J.fuel J.seed HG.out.hs (fun w' h => by rw [← pv_pairsv]; exact h.own_rd) (usedQ_length _ _) (by omega) (usedQ_u16 (rbq_qb HG.out.qr) _)).mono ?_
        unfold Stepped
        rw [HPL.out]
        rintro e w11 ⟨rfl, Sc3⟩
        go_wp2_with fail
        refine hK.out _ _ ⟨(d_at (Sc3.sel [2])).game, (d_at (Sc3.sel [2])).seed, (d_at (Sc3.sel [2])).d⟩ ?_
        clear hK K hHeld
        intro hHeld
        try simp only [Act.put, List.getElem_toArray, List.getElem_cons_zero, List.getElem_cons_succ, List.setIfInBounds_toArray, List.set_cons_zero, List.set_cons_succ]
        refine wpAnyH_tk (i := 15) (v := ?_) (LN := #[true, true, true, true, true, true, true, true, true, true, true, true, true, true, true, true, false, false, true, false, false]) rfl (by kernel_rfl) (by kernel_rfl) (by kernel_rfl) (fun _ _ _ h => h) (by kernel_rfl) (by rfl) (by assumption) ?_ ?_
        rotate_left
        · intro w hSw; (try dsimp only at hSw); first | (go_simp; done) | (go_simp; with_reducible rfl)
        try simp only [Act.put, List.getElem_toArray, List.getElem_cons_zero, List.getElem_cons_succ, List.setIfInBounds_toArray, List.set_cons_zero, List.set_cons_succ]
        refine wpAnyH_tk (i := 16) (v := ?_) (LN := #[true, true, true, true, true, true, true, true, true, true, true, true, true, true, true, true, true, false, true, false, false]) rfl (by kernel_rfl) (by kernel_rfl) (by kernel_rfl) (fun _ _ _ h => h) (by kernel_rfl) (by rfl) (by assumption) ?_ ?_
        rotate_left
        · intro w hSw; (try dsimp only at hSw); first | (go_simp; done) | (go_simp; with_reducible rfl)
        try simp only [Act.put, List.getElem_toArray, List.getElem_cons_zero, List.getElem_cons_succ, List.setIfInBounds_toArray, List.set_cons_zero, List.set_cons_succ]
        refine wpAnyH_tk (i := 17) (v := ?_) (LN := #[true, true, true, true, true, true, true, true, true, true, true, true, true, true, true, true, true, true, true, false, false]) rfl (by kernel_rfl) (by kernel_rfl) (by kernel_rfl) (fun _ _ _ h => h) (by kernel_rfl) (by rfl) (by assumption) ?_ ?_
        rotate_left
        · intro w hSw; (try dsimp only at hSw); first | (go_simp; done) | (go_simp; with_reducible rfl)
        try simp only [Act.put, List.getElem_toArray, List.getElem_cons_zero, List.getElem_cons_succ, List.setIfInBounds_toArray, List.set_cons_zero, List.set_cons_succ]
        refine wpAnyH_one (i := 19) (LN := #[true, true, true, true, true, true, true, true, true, true, true, true, true, true, true, true, true, true, true, true, false]) (by kernel_rfl) rfl (by kernel_rfl) ?_
        intro K hK
        refine step_store_sat (off := 0) (n := 20) rfl 46 _ _ rfl Sc3.tail rfl rfl HNL.out (by decide) Tryz.sizeS (svals_one N) ?_
        intro w12 SF
        rw [zstore] at SF
        refine hK.out _ _ ⟨(d_at (SF.sel [1])).game, (d_at (SF.sel [1])).seed, (d_at (SF.sel [1])).d⟩ ?_
        clear hK K hHeld
        intro hHeld
        try simp only [Act.put, List.getElem_toArray, List.getElem_cons_zero, List.getElem_cons_succ, List.setIfInBounds_toArray, List.set_cons_zero, List.set_cons_succ]
        refine wpAnyH_tk (i := 20) (v := ?_) (LN := #[true, true, true, true, true, true, true, true, true, true, true, true, true, true, true, true, true, true, true, true, true]) rfl (by kernel_rfl) (by kernel_rfl) (by kernel_rfl) (fun _ _ _ h => h) (by kernel_rfl) (by rfl) (by assumption) ?_ ?_
        rotate_left
        · intro w hSw; (try dsimp only at hSw); first | (go_simp; done) | (go_simp; with_reducible rfl)
        try simp only [Act.put, List.getElem_toArray, List.getElem_cons_zero, List.getElem_cons_succ, List.setIfInBounds_toArray, List.set_cons_zero, List.set_cons_succ]
        refine ⟨by kernel_rfl, ?_⟩
        try simp only [Act.put, List.getElem_toArray, List.getElem_cons_zero, List.getElem_cons_succ, List.setIfInBounds_toArray, List.set_cons_zero, List.set_cons_succ]
        go_wp2_with fail
        go_meet
        exact ⟨_, rfl, SF⟩
    · intro K hK
      go_simp
      have Sc1 := (S4.alloc [.int .i64 0, .int .i32 0, .int .i32 0, .int .i32 0, .int .i32 0, .int .i32 0, .int .i32 0, .int .i32 0, .int .i32 0, .int .i32 0, .int .i32 0, .int .i32 0, .int .i32 0, .int .i32 0, .int .i32 0, .int .i32 0, .int .i32 0, .int .u32 0, .bool false, .int .i64 0] 46)
      try simp only [World.size_alloc] at Sc1
      refine hK.out _ _ ⟨(d_at (Sc1.sel [1])).game, (d_at (Sc1.sel [1])).seed, (d_at (Sc1.sel [1])).d⟩ ?_
      clear hK K hHeld
      intro hHeld
      try simp only [Act.put, List.getElem_toArray, List.getElem_cons_zero, List.getElem_cons_succ, List.setIfInBounds_toArray, List.set_cons_zero, List.set_cons_succ]
      refine wpAnyH_one (i := 13) (LN := #[true, true, true, true, true, true, true, true, true, true, true, true, true, true, false, false, false, false, true, false, false]) (by kernel_rfl) rfl (by kernel_rfl) ?_
      intro K hK
      go_simp
      go_at_call 40
      first
        | (refine (dUsed_any Sc1 HG.out.qo hd6).mono ?_; unfold Useds; rintro e w9 ⟨ao, cp, rfl, Sc2⟩)
        | (refine (dUsed_any (Sc1.sel [1, 1]) HG.out.qo hd6).mono ?_; unfold Useds; rintro e w9 ⟨ao, cp, rfl, Sx⟩; have Sc2 := Sx.sel [0, 2])
      go_wp2_with fail
      refine hK.out _ _ ⟨(d_at (Sc2.sel [2])).game, (d_at (Sc2.sel [2])).seed, (d_at (Sc2.sel [2])).d⟩ ?_
      clear hK K hHeld
      intro hHeld
      try simp only [Act.put, List.getElem_toArray, List.getElem_cons_zero, List.getElem_cons_succ, List.setIfInBounds_toArray, List.set_cons_zero, List.set_cons_succ]
      refine wpAnyH_one (i := 14) (LN := #[true, true, true, true, true, true, true, true, true, true, true, true, true, true, true, false, false, false, true, false, false]) (by kernel_rfl) rfl (by kernel_rfl) ?_
      intro K hK
      go_simp
      go_at_call 13
      refine (r11play_any Sc2 (fun w' h => HRD.out _ _ h) HN.out hnm J.cap J.fuel J.seed HG.out.hs (fun w' h => by rw [← pv_pairsv]; exact h.own_rd) (usedQ_length _ _) (by omega) (usedQ_u16 (rbq_qb HG.out.qr) _)).mono ?_
      unfold Stepped
      rw [HPL.out]
      rintro e w11 ⟨rfl, Sc3⟩
      go_wp2_with fail
      refine hK.out _ _ ⟨(d_at (Sc3.sel [2])).game, (d_at (Sc3.sel [2])).seed, (d_at (Sc3.sel [2])).d⟩ ?_
      clear hK K hHeld
      intro hHeld
      try simp only [Act.put, List.getElem_toArray, List.getElem_cons_zero, List.getElem_cons_succ, List.setIfInBounds_toArray, List.set_cons_zero, List.set_cons_succ]
      refine wpAnyH_tk (i := 15) (v := ?_) (LN := #[true, true, true, true, true, true, true, true, true, true, true, true, true, true, true, true, false, false, true, false, false]) rfl (by kernel_rfl) (by kernel_rfl) (by kernel_rfl) (fun _ _ _ h => h) (by kernel_rfl) (by rfl) (by assumption) ?_ ?_
      rotate_left
      · intro w hSw; (try dsimp only at hSw); first | (go_simp; done) | (go_simp; with_reducible rfl)
      try simp only [Act.put, List.getElem_toArray, List.getElem_cons_zero, List.getElem_cons_succ, List.setIfInBounds_toArray, List.set_cons_zero, List.set_cons_succ]
      refine wpAnyH_tk (i := 16) (v := ?_) (LN := #[true, true, true, true, true, true, true, true, true, true, true, true, true, true, true, true, true, false, true, false, false]) rfl (by kernel_rfl) (by kernel_rfl) (by kernel_rfl) (fun _ _ _ h => h) (by kernel_rfl) (by rfl) (by assumption) ?_ ?_
      rotate_left
      · intro w hSw; (try dsimp only at hSw); first | (go_simp; done) | (go_simp; with_reducible rfl)
      try simp only [Act.put, List.getElem_toArray, List.getElem_cons_zero, List.getElem_cons_succ, List.setIfInBounds_toArray, List.set_cons_zero, List.set_cons_succ]
      refine wpAnyH_tk (i := 17) (v := ?_) (LN := #[true, true, true, true, true, true, true, true, true, true, true, true, true, true, true, true, true, true, true, false, false]) rfl (by kernel_rfl) (by kernel_rfl) (by kernel_rfl) (fun _ _ _ h => h) (by kernel_rfl) (by rfl) (by assumption) ?_ ?_
      rotate_left
      · intro w hSw; (try dsimp only at hSw); first | (go_simp; done) | (go_simp; with_reducible rfl)
      try simp only [Act.put, List.getElem_toArray, List.getElem_cons_zero, List.getElem_cons_succ, List.setIfInBounds_toArray, List.set_cons_zero, List.set_cons_succ]
      refine wpAnyH_one (i := 19) (LN := #[true, true, true, true, true, true, true, true, true, true, true, true, true, true, true, true, true, true, true, true, false]) (by kernel_rfl) rfl (by kernel_rfl) ?_
      intro K hK
      refine step_store_sat (off := 0) (n := 20) rfl 46 _ _ rfl Sc3.tail rfl rfl HNL.out (by decide) Tryz.sizeS (svals_one N) ?_
      intro w12 SF
      rw [zstore] at SF
      refine hK.out _ _ ⟨(d_at (SF.sel [1])).game, (d_at (SF.sel [1])).seed, (d_at (SF.sel [1])).d⟩ ?_
      clear hK K hHeld
      intro hHeld
      try simp only [Act.put, List.getElem_toArray, List.getElem_cons_zero, List.getElem_cons_succ, List.setIfInBounds_toArray, List.set_cons_zero, List.set_cons_succ]
      refine wpAnyH_tk (i := 20) (v := ?_) (LN := #[true, true, true, true, true, true, true, true, true, true, true, true, true, true, true, true, true, true, true, true, true]) rfl (by kernel_rfl) (by kernel_rfl) (by kernel_rfl) (fun _ _ _ h => h) (by kernel_rfl) (by rfl) (by assumption) ?_ ?_
      rotate_left
      · intro w hSw; (try dsimp only at hSw); first | (go_simp; done) | (go_simp; with_reducible rfl)
      try simp only [Act.put, List.getElem_toArray, List.getElem_cons_zero, List.getElem_cons_succ, List.setIfInBounds_toArray, List.set_cons_zero, List.set_cons_succ]
      refine ⟨by kernel_rfl, ?_⟩
      try simp only [Act.put, List.getElem_toArray, List.getElem_cons_zero, List.getElem_cons_succ, List.setIfInBounds_toArray, List.set_cons_zero, List.set_cons_succ]
      go_wp2_with fail
      go_meet
      exact ⟨_, rfl, SF⟩
  case rest =>
    obtain ⟨y, rfl, S5⟩ := hcut
    clear S2 S4
    go_wp2_with (first
      | (refine wpList_load_part rfl 46 _ rfl (n := 20) rfl (Sat.whole S5 20) HNL.out Tryz.underlying46 rfl Tryz.sizeS ?_)
      | (refine wpList_store_sat (off := 0) (n := 20) rfl 46 _ _ rfl (S5.sel [3]) rfl rfl HNL.out (by decide) Tryz.sizeS (svals_one N) ?_; intro w6 S6; rw [zstore] at S6))
    exact bodyPost_ret (results_cell_sat rfl _ S6 rfl Tryz.underlying46 rfl (by rw [HNL.out]; exact Tryz.sizeS)) rfl ⟨rfl, S6.tail.tail⟩
end Go.Proofs.YtjdeeloemhjbhaaGreat
end

section
namespace Go.Proofs.YtjdeeloemhjbhaaGreat
open Go.RowKit Go.Sep Go.Oct Go.Vm Go.Inp
set_option linter.unusedSimpArgs false

set_option maxRecDepth 100000 in
set_option maxHeartbeats 6400000 in
theorem dSure_any {W0 w : World} {L : List Asn} {g qp : Nat} {a : Option Addr} {n c : Nat} {J : SK} {s : PS} {cc : Nat} (S : Sat W0 w (blk g (dcv a n c J qp s) 64 :: RQu qp s.q :: L)) (G : J.Good s cc) (hRD : ∀ (M : List Asn) (w' : World), Sat W0 w' M → Rd w' a (insv J.code)) (hn : J.code.length = n) :
    Calls Tryz.prog 21 #[.pointer (some ⟨g, 0, none⟩)] w fun e w' => e = .returned (.agg (svals (J.sure s)).toArray) ∧ Sat W0 w' (blk g (dcv a n c J qp s) 64 :: RQu qp s.q :: L) := by
  have S1 := S.alloc [.int .i64 0, .int .i32 0, .int .i32 0, .int .i32 0, .int .i32 0, .int .i32 0, .int .i32 0, .int .i32 0, .int .i32 0, .int .i32 0, .int .i32 0, .int .i32 0, .int .i32 0, .int .i32 0, .int .i32 0, .int .i32 0, .int .i32 0, .int .u32 0, .bool false, .int .i64 0] 46
  have S2 : Sat W0 _ (blk g (dcv a n c J qp s) 64 :: RQu qp s.q :: blk w.heap.size [.int .i64 0, .int .i32 0, .int .i32 0, .int .i32 0, .int .i32 0, .int .i32 0, .int .i32 0, .int .i32 0, .int .i32 0, .int .i32 0, .int .i32 0, .int .i32 0, .int .i32 0, .int .i32 0, .int .i32 0, .int .i32 0, .int .i32 0, .int .u32 0, .bool false, .int .i64 0] 46 :: L) := S1.sel [1, 1]
  have hcl := (check_ok G.hk).1
  have hcap := (check_ok G.hk).2.2.2.1
  have hd6 : s.d ≤ 600 := by have := G.dn; have := G.qn; omega
  have hm6 : sureN s.q s.d ≤ 600 := by unfold sureN; omega
  have hmi : (if (s.q.both : Int) < (s.d : Int) then (s.q.both : Int) else (s.d : Int)) = (sureN s.q s.d : Nat) := by unfold sureN; split <;> omega
  have hmi2 : (if s.q.both < s.d then (s.q.both : Int) else (s.d : Int)) = (sureN s.q s.d : Nat) := by unfold sureN; split <;> omega
  have hN : playP J.code J.cap J.fuel J.seed (usedQ s.q (sureN s.q s.d)) = (J.sure s, 0) := play_stL G.hk _
  have hok := (stA_goes G.hk G.hs (rbq_qb G.qr) (sureN s.q s.d)).1.ok
  change (J.sure s).Ok at hok
  obtain ⟨N, hNN⟩ : ∃ N, J.sure s = N := ⟨_, rfl⟩
  rw [hNN] at hN hok ⊢
  have HPL := Lib.hid hN
  have HNL := Lib.hid (svals_length hok.len)
  have HRD : Hid (∀ (M : List Asn) (w' : World), Sat W0 w' M → Rd w' a (insv J.code)) := hRD
  have HN := Lib.hid hn
  have HG := Lib.hid G
  have hnm : n ≤ maxLen := by unfold maxLen; omega
  clear S S1 hN hNN hok hn hcl hcap hRD G
  go_enter Tryz.func21, Tryz.ntmps21
  go_upto_region 1 with fail
  change Sat W0 (World.alloc w _) _ at S2
  generalize World.alloc w _ = w2 at S2 ⊢
  generalize w.heap.size = z at S2 ⊢
  have S4 := S2.drew
  go_cut [3] (fun v3 wx => ∃ y, v3 = .pointer (some ⟨y, 0, none⟩) ∧ Sat W0 wx (blk y (svals N) 46 :: blk g (dcv a n c J qp s) 64 :: RQu qp s.q :: blk z [.int .i64 0, .int .i32 0, .int .i32 0, .int .i32 0, .int .i32 0, .int .i32 0, .int .i32 0, .int .i32 0, .int .i32 0, .int .i32 0, .int .i32 0, .int .i32 0, .int .i32 0, .int .i32 0, .int .i32 0, .int .i32 0, .int .i32 0, .int .u32 0, .bool false, .int .i64 0] 46 :: L))
  case first =>
    refine wp_region_drawn (N := 27) (LN := #[false, false, false, false, false, false, false, false, false, false, false, false, false, false, false, false, false, false, false, false, false, false, false, false, false, false, false]) (by kernel_rfl) (by kernel_rfl) (by kernel_rfl) ?_
    refine wpAny_held (fun w' => (∀ j, j < 3 → w'.cell? ⟨g, 0 + j, none⟩ = ([.slice a n c, .int .i64 J.cap, .int .i64 J.fuel] : List Value)[j]?) ∧ w'.cell? ⟨g, 3, none⟩ = some (.int .u32 J.seed) ∧ w'.cell? ⟨g, 6, none⟩ = some (.int .i64 s.d) ∧ w'.cell? ⟨g, 5, none⟩ = some (.pointer (some ⟨qp, 0, none⟩))) ⟨(d_at S4).game, (d_at S4).seed, (d_at S4).d, (d_at S4).qp⟩ (fun hHeld => ?_)
    refine wpAnyH_tk (i := 0) (v := ?_) (LN := #[true, false, false, false, false, false, false, false, false, false, false, false, false, false, false, false, false, false, false, false, false, false, false, false, false, false, false]) rfl (by kernel_rfl) (by kernel_rfl) (by kernel_rfl) (fun _ _ _ h => h) (by kernel_rfl) (by rfl) (by assumption) ?_ ?_
    rotate_left
    · intro w hSw; (try dsimp only at hSw); first | (go_simp; done) | (go_simp; with_reducible rfl)
    try simp only [Act.put, List.getElem_toArray, List.getElem_cons_zero, List.getElem_cons_succ, List.setIfInBounds_toArray, List.set_cons_zero, List.set_cons_succ]
    refine wpAnyH_tk (i := 1) (v := ?_) (LN := #[true, true, false, false, false, false, false, false, false, false, false, false, false, false, false, false, false, false, false, false, false, false, false, false, false, false, false]) rfl (by kernel_rfl) (by kernel_rfl) (by kernel_rfl) (fun _ _ _ h => h) (by kernel_rfl) (by rfl) (by assumption) ?_ ?_
    rotate_left
    · intro w hSw; (try dsimp only at hSw); first | (go_simp; done) | (go_simp; with_reducible rfl)
    try simp only [Act.put, List.getElem_toArray, List.getElem_cons_zero, List.getElem_cons_succ, List.setIfInBounds_toArray, List.set_cons_zero, List.set_cons_succ]
    refine wpAnyH_tk (i := 2) (v := ?_) (LN := #[true, true, true, false, false, false, false, false, false, false, false, false, false, false, false, false, false, false, false, false, false, false, false, false, false, false, false]) rfl (by kernel_rfl) (by kernel_rfl) (by kernel_rfl) (fun _ _ _ h => h) (by kernel_rfl) (by rfl) (by assumption) ?_ ?_
    rotate_left
    · intro w hSw; (try dsimp only at hSw); first | (go_simp; done) | (go_simp; with_reducible rfl)
    try simp only [Act.put, List.getElem_toArray, List.getElem_cons_zero, List.getElem_cons_succ, List.setIfInBounds_toArray, List.set_cons_zero, List.set_cons_succ]
    refine wpAnyH_tk (i := 3) (LN := #[true, true, true, true, false, false, false, false, false, false, false, false, false, false, false, false, false, false, false, false, false, false, false, false, false, false, false]) rfl (by kernel_rfl) (by kernel_rfl) (by kernel_rfl) (fun _ _ _ h => h) (by kernel_rfl) (by rfl) (by assumption) (fun w h => run_load_part 24 _ rfl (g := g) (off := 0) (n := 3) rfl (h.1) rfl Tryz.underlying24 rfl (by kernel_rfl)) ?_
    try simp only [Act.put, List.getElem_toArray, List.getElem_cons_zero, List.getElem_cons_succ, List.setIfInBounds_toArray, List.set_cons_zero, List.set_cons_succ]
    refine wpAnyH_tk (i := 4) (v := ?_) (LN := #[true, true, true, true, true, false, false, false, false, false, false, false, false, false, false, false, false, false, false, false, false, false, false, false, false, false, false]) rfl (by kernel_rfl) (by kernel_rfl) (by kernel_rfl) (fun _ _ _ h => h) (by kernel_rfl) (by rfl) (by assumption) ?_ ?_
    rotate_left
    · intro w hSw; (try dsimp only at hSw); first | (go_simp; done) | (go_simp; with_reducible rfl)
    try simp only [Act.put, List.getElem_toArray, List.getElem_cons_zero, List.getElem_cons_succ, List.setIfInBounds_toArray, List.set_cons_zero, List.set_cons_succ]
    refine wpAnyH_tk (i := 5) (v := ?_) (LN := #[true, true, true, true, true, true, false, false, false, false, false, false, false, false, false, false, false, false, false, false, false, false, false, false, false, false, false]) rfl (by kernel_rfl) (by kernel_rfl) (by kernel_rfl) (fun _ _ _ h => h) (by kernel_rfl) (by rfl) (by assumption) ?_ ?_
    rotate_left
    · intro w hSw; (try dsimp only at hSw); first | (go_simp; done) | (go_simp; with_reducible rfl)
    try simp only [Act.put, List.getElem_toArray, List.getElem_cons_zero, List.getElem_cons_succ, List.setIfInBounds_toArray, List.set_cons_zero, List.set_cons_succ]
    refine wpAnyH_tk (i := 6) (v := ?_) (LN := #[true, true, true, true, true, true, true, false, false, false, false, false, false, false, false, false, false, false, false, false, false, false, false, false, false, false, false]) rfl (by kernel_rfl) (by kernel_rfl) (by kernel_rfl) (fun _ _ _ h => h) (by kernel_rfl) (by rfl) (by assumption) ?_ ?_
    rotate_left
    · intro w hSw; (try dsimp only at hSw); first | (go_simp; done) | (go_simp; with_reducible rfl)
    try simp only [Act.put, List.getElem_toArray, List.getElem_cons_zero, List.getElem_cons_succ, List.setIfInBounds_toArray, List.set_cons_zero, List.set_cons_succ]
    refine wpAnyH_tk (i := 7) (v := ?_) (LN := #[true, true, true, true, true, true, true, true, false, false, false, false, false, false, false, false, false, false, false, false, false, false, false, false, false, false, false]) rfl (by kernel_rfl) (by kernel_rfl) (by kernel_rfl) (fun _ _ _ h => h) (by kernel_rfl) (by rfl) (by assumption) ?_ ?_
    rotate_left
    · intro w hSw; (try dsimp only at hSw); first | (go_simp; done) | (go_simp; with_reducible rfl)
    try simp only [Act.put, List.getElem_toArray, List.getElem_cons_zero, List.getElem_cons_succ, List.setIfInBounds_toArray, List.set_cons_zero, List.set_cons_succ]
    refine wpAnyH_tk (i := 8) (v := ?_) (LN := #[true, true, true, true, true, true, true, true, true, false, false, false, false, false, false, false, false, false, false, false, false, false, false, false, false, false, false]) rfl (by kernel_rfl) (by kernel_rfl) (by kernel_rfl) (fun _ _ _ h => h) (by kernel_rfl) (by rfl) (by assumption) ?_ ?_
    rotate_left
    · intro w hSw; (try dsimp only at hSw); first | (go_simp; done) | (go_simp; with_reducible rfl)
    try simp only [Act.put, List.getElem_toArray, List.getElem_cons_zero, List.getElem_cons_succ, List.setIfInBounds_toArray, List.set_cons_zero, List.set_cons_succ]
    refine wpAnyH_tk (i := 9) (v := ?_) (LN := #[true, true, true, true, true, true, true, true, true, true, false, false, false, false, false, false, false, false, false, false, false, false, false, false, false, false, false]) rfl (by kernel_rfl) (by kernel_rfl) (by kernel_rfl) (fun _ _ _ h => h) (by kernel_rfl) (by rfl) (by assumption) ?_ ?_
    rotate_left
    · intro w hSw; (try dsimp only at hSw); first | (go_simp; done) | (go_simp; with_reducible rfl)
    try simp only [Act.put, List.getElem_toArray, List.getElem_cons_zero, List.getElem_cons_succ, List.setIfInBounds_toArray, List.set_cons_zero, List.set_cons_succ]
    refine wpAnyH_tk (i := 10) (v := ?_) (LN := #[true, true, true, true, true, true, true, true, true, true, true, false, false, false, false, false, false, false, false, false, false, false, false, false, false, false, false]) rfl (by kernel_rfl) (by kernel_rfl) (by kernel_rfl) (fun _ _ _ h => h) (by kernel_rfl) (by rfl) (by assumption) ?_ ?_
    rotate_left
    · intro w hSw; (try dsimp only at hSw); first | (go_simp; done) | (go_simp; with_reducible rfl)
    try simp only [Act.put, List.getElem_toArray, List.getElem_cons_zero, List.getElem_cons_succ, List.setIfInBounds_toArray, List.set_cons_zero, List.set_cons_succ]
    refine wpAnyH_tk (i := 11) (v := ?_) (LN := #[true, true, true, true, true, true, true, true, true, true, true, true, false, false, false, false, false, false, false, false, false, false, false, false, false, false, false]) rfl (by kernel_rfl) (by kernel_rfl) (by kernel_rfl) (fun _ _ _ h => h) (by kernel_rfl) (by rfl) (by assumption) ?_ ?_
    rotate_left
    · intro w hSw; (try dsimp only at hSw); first | (go_simp; done) | (go_simp; with_reducible rfl)
    try simp only [Act.put, List.getElem_toArray, List.getElem_cons_zero, List.getElem_cons_succ, List.setIfInBounds_toArray, List.set_cons_zero, List.set_cons_succ]
    refine wpAnyH_tk (i := 12) (v := ?_) (LN := #[true, true, true, true, true, true, true, true, true, true, true, true, true, false, false, false, false, false, false, false, false, false, false, false, false, false, false]) rfl (by kernel_rfl) (by kernel_rfl) (by kernel_rfl) (fun _ _ _ h => h) (by kernel_rfl) (by rfl) (by assumption) ?_ ?_
    rotate_left
    · intro w hSw; (try dsimp only at hSw); first | (go_simp; done) | (go_simp; with_reducible rfl)
    try simp only [Act.put, List.getElem_toArray, List.getElem_cons_zero, List.getElem_cons_succ, List.setIfInBounds_toArray, List.set_cons_zero, List.set_cons_succ]
    refine wpAnyH_tk (i := 13) (v := ?_) (LN := #[true, true, true, true, true, true, true, true, true, true, true, true, true, true, false, false, false, false, false, false, false, false, false, false, false, false, false]) rfl (by kernel_rfl) (by kernel_rfl) (by kernel_rfl) (fun _ _ _ h => h) (by kernel_rfl) (by rfl) (by assumption) ?_ ?_
    rotate_left
    · intro w hSw; (try dsimp only at hSw); first | (go_simp; done) | (go_simp; with_reducible rfl)
    try simp only [Act.put, List.getElem_toArray, List.getElem_cons_zero, List.getElem_cons_succ, List.setIfInBounds_toArray, List.set_cons_zero, List.set_cons_succ]
    refine wpAnyH_tk (i := 14) (v := ?_) (LN := #[true, true, true, true, true, true, true, true, true, true, true, true, true, true, true, false, false, false, false, false, false, false, false, false, false, false, false]) rfl (by kernel_rfl) (by kernel_rfl) (by kernel_rfl) (fun _ _ _ h => h) (by kernel_rfl) (by rfl) (by assumption) ?_ ?_
    rotate_left
    · intro w hSw; (try dsimp only at hSw); first | (go_simp; done) | (go_simp; with_reducible rfl)
    try simp only [Act.put, List.getElem_toArray, List.getElem_cons_zero, List.getElem_cons_succ, List.setIfInBounds_toArray, List.set_cons_zero, List.set_cons_succ]
    refine wpAnyH_tk (i := 15) (v := ?_) (LN := #[true, true, true, true, true, true, true, true, true, true, true, true, true, true, true, true, false, false, false, false, false, false, false, false, false, false, false]) rfl (by kernel_rfl) (by kernel_rfl) (by kernel_rfl) (fun _ _ _ h => h) (by kernel_rfl) (by rfl) (by assumption) ?_ ?_
    rotate_left
    · intro w hSw; (try dsimp only at hSw); first | (go_simp; done) | (go_simp; with_reducible rfl)
    try simp only [Act.put, List.getElem_toArray, List.getElem_cons_zero, List.getElem_cons_succ, List.setIfInBounds_toArray, List.set_cons_zero, List.set_cons_succ]
    refine wpAnyH_tk (i := 16) (v := ?_) (LN := #[true, true, true, true, true, true, true, true, true, true, true, true, true, true, true, true, true, false, false, false, false, false, false, false, false, false, false]) rfl (by kernel_rfl) (by kernel_rfl) (by kernel_rfl) (fun _ _ _ h => h) (by kernel_rfl) (by rfl) (by assumption) ?_ ?_
    rotate_left
    · intro w hSw; (try dsimp only at hSw); first | (go_simp; done) | (go_simp; with_reducible rfl)
    try simp only [Act.put, List.getElem_toArray, List.getElem_cons_zero, List.getElem_cons_succ, List.setIfInBounds_toArray, List.set_cons_zero, List.set_cons_succ]
    refine wpAnyH_two (i := 17) (j := 24) (Li := #[true, true, true, true, true, true, true, true, true, true, true, true, true, true, true, true, true, true, false, false, false, false, false, false, false, false, false]) (Lj := #[true, true, true, true, true, true, true, true, true, true, true, true, true, true, true, true, true, false, false, false, false, false, false, false, true, false, false]) (by kernel_rfl) rfl rfl (by kernel_rfl) (by kernel_rfl) ?_ ?_
    · intro K hK
      go_simp
      go_at_call 41
      first
        | refine (rboth_any (S4.sel [1]) HG.out.qo).mono ?_
        | refine (rboth_any (S4.sel [2]) HG.out.qo).mono ?_
      rintro e w8 ⟨rfl, rfl⟩
      have Sc1 := S4
      go_wp2_with fail
      refine hK.out _ _ ⟨(d_at (Sc1.sel [0])).game, (d_at (Sc1.sel [0])).seed, (d_at (Sc1.sel [0])).d, (d_at (Sc1.sel [0])).qp⟩ ?_
      clear hK K hHeld
      intro hHeld
      try simp only [Act.put, List.getElem_toArray, List.getElem_cons_zero, List.getElem_cons_succ, List.setIfInBounds_toArray, List.set_cons_zero, List.set_cons_succ]
      refine wpAnyH_tk (i := 18) (v := ?_) (LN := #[true, true, true, true, true, true, true, true, true, true, true, true, true, true, true, true, true, true, true, false, false, false, false, false, false, false, false]) rfl (by kernel_rfl) (by kernel_rfl) (by kernel_rfl) (fun _ _ _ h => h) (by kernel_rfl) (by rfl) (by assumption) ?_ ?_
      rotate_left
      · intro w hSw; (try dsimp only at hSw); first | (go_simp; done) | (go_simp; with_reducible rfl)
      try simp only [Act.put, List.getElem_toArray, List.getElem_cons_zero, List.getElem_cons_succ, List.setIfInBounds_toArray, List.set_cons_zero, List.set_cons_succ]
      refine wpAnyH_two (i := 19) (j := 24) (Li := #[true, true, true, true, true, true, true, true, true, true, true, true, true, true, true, true, true, true, true, true, false, false, false, false, false, false, false]) (Lj := #[true, true, true, true, true, true, true, true, true, true, true, true, true, true, true, true, true, true, true, false, false, false, false, false, true, false, false]) (by kernel_rfl) rfl rfl (by kernel_rfl) (by kernel_rfl) ?_ ?_
      · intro K hK
        go_simp
        go_at_call 40
        first
          | (refine (dUsed_any Sc1 HG.out.qo hm6).mono ?_; unfold Useds; rintro e w9 ⟨ao, cp, rfl, Sc2⟩)
          | (refine (dUsed_any (Sc1.sel [1, 1]) HG.out.qo hm6).mono ?_; unfold Useds; rintro e w9 ⟨ao, cp, rfl, Sx⟩; have Sc2 := Sx.sel [0, 2])
        go_wp2_with fail
        refine hK.out _ _ ⟨(d_at (Sc2.sel [1])).game, (d_at (Sc2.sel [1])).seed, (d_at (Sc2.sel [1])).d, (d_at (Sc2.sel [1])).qp⟩ ?_
        clear hK K hHeld
        intro hHeld
        try simp only [Act.put, List.getElem_toArray, List.getElem_cons_zero, List.getElem_cons_succ, List.setIfInBounds_toArray, List.set_cons_zero, List.set_cons_succ]
        refine wpAnyH_two (i := 20) (j := 24) (Li := #[true, true, true, true, true, true, true, true, true, true, true, true, true, true, true, true, true, true, true, true, true, false, false, false, false, false, false]) (Lj := #[true, true, true, true, true, true, true, true, true, true, true, true, true, true, true, true, true, true, true, true, false, false, false, false, true, false, false]) (by kernel_rfl) rfl rfl (by kernel_rfl) (by kernel_rfl) ?_ ?_
        · intro K hK
          go_simp
          go_at_call 13
          refine (r11play_any Sc2 (fun w' h => HRD.out _ _ h) HN.out hnm J.cap J.fuel J.seed HG.out.hs (fun w' h => by rw [← pv_pairsv]; exact h.own_rd) (usedQ_length _ _) (by omega) (usedQ_u16 (rbq_qb HG.out.qr) _)).mono ?_
          unfold Stepped
          rw [HPL.out]
          rintro e w11 ⟨rfl, Sc3⟩
          go_wp2_with fail
          refine hK.out _ _ ⟨(d_at (Sc3.sel [1])).game, (d_at (Sc3.sel [1])).seed, (d_at (Sc3.sel [1])).d, (d_at (Sc3.sel [1])).qp⟩ ?_
          clear hK K hHeld
          intro hHeld
          try simp only [Act.put, List.getElem_toArray, List.getElem_cons_zero, List.getElem_cons_succ, List.setIfInBounds_toArray, List.set_cons_zero, List.set_cons_succ]
          refine wpAnyH_tk (i := 21) (v := ?_) (LN := #[true, true, true, true, true, true, true, true, true, true, true, true, true, true, true, true, true, true, true, true, true, true, false, false, false, false, false]) rfl (by kernel_rfl) (by kernel_rfl) (by kernel_rfl) (fun _ _ _ h => h) (by kernel_rfl) (by rfl) (by assumption) ?_ ?_
          rotate_left
          · intro w hSw; (try dsimp only at hSw); first | (go_simp; done) | (go_simp; with_reducible rfl)
          try simp only [Act.put, List.getElem_toArray, List.getElem_cons_zero, List.getElem_cons_succ, List.setIfInBounds_toArray, List.set_cons_zero, List.set_cons_succ]
          refine wpAnyH_tk (i := 22) (v := ?_) (LN := #[true, true, true, true, true, true, true, true, true, true, true, true, true, true, true, true, true, true, true, true, true, true, true, false, false, false, false]) rfl (by kernel_rfl) (by kernel_rfl) (by kernel_rfl) (fun _ _ _ h => h) (by kernel_rfl) (by rfl) (by assumption) ?_ ?_
          rotate_left
          · intro w hSw; (try dsimp only at hSw); first | (go_simp; done) | (go_simp; with_reducible rfl)
          try simp only [Act.put, List.getElem_toArray, List.getElem_cons_zero, List.getElem_cons_succ, List.setIfInBounds_toArray, List.set_cons_zero, List.set_cons_succ]
          refine wpAnyH_tk (i := 23) (v := ?_) (LN := #[true, true, true, true, true, true, true, true, true, true, true, true, true, true, true, true, true, true, true, true, true, true, true, true, false, false, false]) rfl (by kernel_rfl) (by kernel_rfl) (by kernel_rfl) (fun _ _ _ h => h) (by kernel_rfl) (by rfl) (by assumption) ?_ ?_
          rotate_left
          · intro w hSw; (try dsimp only at hSw); first | (go_simp; done) | (go_simp; with_reducible rfl)
          try simp only [Act.put, List.getElem_toArray, List.getElem_cons_zero, List.getElem_cons_succ, List.setIfInBounds_toArray, List.set_cons_zero, List.set_cons_succ]
          refine wpAnyH_one (i := 24) (LN := #[true, true, true, true, true, true, true, true, true, true, true, true, true, true, true, true, true, true, true, true, true, true, true, true, true, false, false]) (by kernel_rfl) rfl (by kernel_rfl) ?_
          intro K hK
          go_simp
          have Sc4 := (Sc3.alloc [.int .i64 0, .int .i32 0, .int .i32 0, .int .i32 0, .int .i32 0, .int .i32 0, .int .i32 0, .int .i32 0, .int .i32 0, .int .i32 0, .int .i32 0, .int .i32 0, .int .i32 0, .int .i32 0, .int .i32 0, .int .i32 0, .int .i32 0, .int .u32 0, .bool false, .int .i64 0] 46).swap
          try simp only [World.size_alloc] at Sc4
          refine hK.out _ _ ⟨(d_at (Sc4.sel [2])).game, (d_at (Sc4.sel [2])).seed, (d_at (Sc4.sel [2])).d, (d_at (Sc4.sel [2])).qp⟩ ?_
          clear hK K hHeld
          intro hHeld
          try simp only [Act.put, List.getElem_toArray, List.getElem_cons_zero, List.getElem_cons_succ, List.setIfInBounds_toArray, List.set_cons_zero, List.set_cons_succ]
          refine wpAnyH_one (i := 25) (LN := #[true, true, true, true, true, true, true, true, true, true, true, true, true, true, true, true, true, true, true, true, true, true, true, true, true, true, false]) (by kernel_rfl) rfl (by kernel_rfl) ?_
          intro K hK
          refine step_store_sat (off := 0) (n := 20) rfl 46 _ _ rfl Sc4.tail rfl rfl HNL.out (by decide) Tryz.sizeS (svals_one N) ?_
          intro w12 SF
          rw [zstore] at SF
          refine hK.out _ _ ⟨(d_at (SF.sel [1])).game, (d_at (SF.sel [1])).seed, (d_at (SF.sel [1])).d, (d_at (SF.sel [1])).qp⟩ ?_
          clear hK K hHeld
          intro hHeld
          try simp only [Act.put, List.getElem_toArray, List.getElem_cons_zero, List.getElem_cons_succ, List.setIfInBounds_toArray, List.set_cons_zero, List.set_cons_succ]
          refine wpAnyH_tk (i := 26) (v := ?_) (LN := #[true, true, true, true, true, true, true, true, true, true, true, true, true, true, true, true, true, true, true, true, true, true, true, true, true, true, true]) rfl (by kernel_rfl) (by kernel_rfl) (by kernel_rfl) (fun _ _ _ h => h) (by kernel_rfl) (by rfl) (by assumption) ?_ ?_
          rotate_left
          · intro w hSw; (try dsimp only at hSw); first | (go_simp; done) | (go_simp; with_reducible rfl)
          try simp only [Act.put, List.getElem_toArray, List.getElem_cons_zero, List.getElem_cons_succ, List.setIfInBounds_toArray, List.set_cons_zero, List.set_cons_succ]
          refine ⟨by kernel_rfl, ?_⟩
          try simp only [Act.put, List.getElem_toArray, List.getElem_cons_zero, List.getElem_cons_succ, List.setIfInBounds_toArray, List.set_cons_zero, List.set_cons_succ]
          go_wp2_with fail
          go_meet
          exact ⟨_, rfl, SF⟩
        · intro K hK
          go_simp
          have Sc3 := (Sc2.alloc [.int .i64 0, .int .i32 0, .int .i32 0, .int .i32 0, .int .i32 0, .int .i32 0, .int .i32 0, .int .i32 0, .int .i32 0, .int .i32 0, .int .i32 0, .int .i32 0, .int .i32 0, .int .i32 0, .int .i32 0, .int .i32 0, .int .i32 0, .int .u32 0, .bool false, .int .i64 0] 46).swap
          try simp only [World.size_alloc] at Sc3
          refine hK.out _ _ ⟨(d_at (Sc3.sel [2])).game, (d_at (Sc3.sel [2])).seed, (d_at (Sc3.sel [2])).d, (d_at (Sc3.sel [2])).qp⟩ ?_
          clear hK K hHeld
          intro hHeld
          try simp only [Act.put, List.getElem_toArray, List.getElem_cons_zero, List.getElem_cons_succ, List.setIfInBounds_toArray, List.set_cons_zero, List.set_cons_succ]
          refine wpAnyH_one (i := 20) (LN := #[true, true, true, true, true, true, true, true, true, true, true, true, true, true, true, true, true, true, true, true, true, false, false, false, true, false, false]) (by kernel_rfl) rfl (by kernel_rfl) ?_
          intro K hK
          go_simp
          go_at_call 13
          refine (r11play_any Sc3 (fun w' h => HRD.out _ _ h) HN.out hnm J.cap J.fuel J.seed HG.out.hs (fun w' h => by rw [← pv_pairsv]; exact h.own_rd) (usedQ_length _ _) (by omega) (usedQ_u16 (rbq_qb HG.out.qr) _)).mono ?_
          unfold Stepped
          rw [HPL.out]
          rintro e w11 ⟨rfl, Sc4⟩
          go_wp2_with fail
          refine hK.out _ _ ⟨(d_at (Sc4.sel [2])).game, (d_at (Sc4.sel [2])).seed, (d_at (Sc4.sel [2])).d, (d_at (Sc4.sel [2])).qp⟩ ?_
          clear hK K hHeld
          intro hHeld
          try simp only [Act.put, List.getElem_toArray, List.getElem_cons_zero, List.getElem_cons_succ, List.setIfInBounds_toArray, List.set_cons_zero, List.set_cons_succ]
          refine wpAnyH_tk (i := 21) (v := ?_) (LN := #[true, true, true, true, true, true, true, true, true, true, true, true, true, true, true, true, true, true, true, true, true, true, false, false, true, false, false]) rfl (by kernel_rfl) (by kernel_rfl) (by kernel_rfl) (fun _ _ _ h => h) (by kernel_rfl) (by rfl) (by assumption) ?_ ?_
          rotate_left
          · intro w hSw; (try dsimp only at hSw); first | (go_simp; done) | (go_simp; with_reducible rfl)
          try simp only [Act.put, List.getElem_toArray, List.getElem_cons_zero, List.getElem_cons_succ, List.setIfInBounds_toArray, List.set_cons_zero, List.set_cons_succ]
          refine wpAnyH_tk (i := 22) (v := ?_) (LN := #[true, true, true, true, true, true, true, true, true, true, true, true, true, true, true, true, true, true, true, true, true, true, true, false, true, false, false]) rfl (by kernel_rfl) (by kernel_rfl) (by kernel_rfl) (fun _ _ _ h => h) (by kernel_rfl) (by rfl) (by assumption) ?_ ?_
          rotate_left
          · intro w hSw; (try dsimp only at hSw); first | (go_simp; done) | (go_simp; with_reducible rfl)
          try simp only [Act.put, List.getElem_toArray, List.getElem_cons_zero, List.getElem_cons_succ, List.setIfInBounds_toArray, List.set_cons_zero, List.set_cons_succ]
          refine wpAnyH_tk (i := 23) (v := ?_) (LN := #[true, true, true, true, true, true, true, true, true, true, true, true, true, true, true, true, true, true, true, true, true, true, true, true, true, false, false]) rfl (by kernel_rfl) (by kernel_rfl) (by kernel_rfl) (fun _ _ _ h => h) (by kernel_rfl) (by rfl) (by assumption) ?_ ?_
          rotate_left
          · intro w hSw; (try dsimp only at hSw); first | (go_simp; done) | (go_simp; with_reducible rfl)
          try simp only [Act.put, List.getElem_toArray, List.getElem_cons_zero, List.getElem_cons_succ, List.setIfInBounds_toArray, List.set_cons_zero, List.set_cons_succ]
          refine wpAnyH_one (i := 25) (LN := #[true, true, true, true, true, true, true, true, true, true, true, true, true, true, true, true, true, true, true, true, true, true, true, true, true, true, false]) (by kernel_rfl) rfl (by kernel_rfl) ?_
          intro K hK
          refine step_store_sat (off := 0) (n := 20) rfl 46 _ _ rfl Sc4.tail rfl rfl HNL.out (by decide) Tryz.sizeS (svals_one N) ?_
          intro w12 SF
          rw [zstore] at SF
          refine hK.out _ _ ⟨(d_at (SF.sel [1])).game, (d_at (SF.sel [1])).seed, (d_at (SF.sel [1])).d, (d_at (SF.sel [1])).qp⟩ ?_
          clear hK K hHeld
          intro hHeld
          try simp only [Act.put, List.getElem_toArray, List.getElem_cons_zero, List.getElem_cons_succ, List.setIfInBounds_toArray, List.set_cons_zero, List.set_cons_succ]
          refine wpAnyH_tk (i := 26) (v := ?_) (LN := #[true, true, true, true, true, true, true, true, true, true, true, true, true, true, true, true, true, true, true, true, true, true, true, true, true, true, true]) rfl (by kernel_rfl) (by kernel_rfl) (by kernel_rfl) (fun _ _ _ h => h) (by kernel_rfl) (by rfl) (by assumption) ?_ ?_
          rotate_left
          · intro w hSw; (try dsimp only at hSw); first | (go_simp; done) | (go_simp; with_reducible rfl)
          try simp only [Act.put, List.getElem_toArray, List.getElem_cons_zero, List.getElem_cons_succ, List.setIfInBounds_toArray, List.set_cons_zero, List.set_cons_succ]
          refine ⟨by kernel_rfl, ?_⟩
          try simp only [Act.put, List.getElem_toArray, List.getElem_cons_zero, List.getElem_cons_succ, List.setIfInBounds_toArray, List.set_cons_zero, List.set_cons_succ]
          go_wp2_with fail
          go_meet
          exact ⟨_, rfl, SF⟩
      · intro K hK
        go_simp
        have Sc2 := (Sc1.alloc [.int .i64 0, .int .i32 0, .int .i32 0, .int .i32 0, .int .i32 0, .int .i32 0, .int .i32 0, .int .i32 0, .int .i32 0, .int .i32 0, .int .i32 0, .int .i32 0, .int .i32 0, .int .i32 0, .int .i32 0, .int .i32 0, .int .i32 0, .int .u32 0, .bool false, .int .i64 0] 46)
        try simp only [World.size_alloc] at Sc2
        refine hK.out _ _ ⟨(d_at (Sc2.sel [1])).game, (d_at (Sc2.sel [1])).seed, (d_at (Sc2.sel [1])).d, (d_at (Sc2.sel [1])).qp⟩ ?_
        clear hK K hHeld
        intro hHeld
        try simp only [Act.put, List.getElem_toArray, List.getElem_cons_zero, List.getElem_cons_succ, List.setIfInBounds_toArray, List.set_cons_zero, List.set_cons_succ]
        refine wpAnyH_one (i := 19) (LN := #[true, true, true, true, true, true, true, true, true, true, true, true, true, true, true, true, true, true, true, true, false, false, false, false, true, false, false]) (by kernel_rfl) rfl (by kernel_rfl) ?_
        intro K hK
        go_simp
        go_at_call 40
        first
          | (refine (dUsed_any Sc2 HG.out.qo hm6).mono ?_; unfold Useds; rintro e w9 ⟨ao, cp, rfl, Sc3⟩)
          | (refine (dUsed_any (Sc2.sel [1, 1]) HG.out.qo hm6).mono ?_; unfold Useds; rintro e w9 ⟨ao, cp, rfl, Sx⟩; have Sc3 := Sx.sel [0, 2])
        go_wp2_with fail
        refine hK.out _ _ ⟨(d_at (Sc3.sel [2])).game, (d_at (Sc3.sel [2])).seed, (d_at (Sc3.sel [2])).d, (d_at (Sc3.sel [2])).qp⟩ ?_
        clear hK K hHeld
        intro hHeld
        try simp only [Act.put, List.getElem_toArray, List.getElem_cons_zero, List.getElem_cons_succ, List.setIfInBounds_toArray, List.set_cons_zero, List.set_cons_succ]
        refine wpAnyH_one (i := 20) (LN := #[true, true, true, true, true, true, true, true, true, true, true, true, true, true, true, true, true, true, true, true, true, false, false, false, true, false, false]) (by kernel_rfl) rfl (by kernel_rfl) ?_
        intro K hK
        go_simp
        go_at_call 13
        refine (r11play_any Sc3 (fun w' h => HRD.out _ _ h) HN.out hnm J.cap J.fuel J.seed HG.out.hs (fun w' h => by rw [← pv_pairsv]; exact h.own_rd) (usedQ_length _ _) (by omega) (usedQ_u16 (rbq_qb HG.out.qr) _)).mono ?_
        unfold Stepped
        rw [HPL.out]
        rintro e w11 ⟨rfl, Sc4⟩
        go_wp2_with fail
        refine hK.out _ _ ⟨(d_at (Sc4.sel [2])).game, (d_at (Sc4.sel [2])).seed, (d_at (Sc4.sel [2])).d, (d_at (Sc4.sel [2])).qp⟩ ?_
        clear hK K hHeld
        intro hHeld
        try simp only [Act.put, List.getElem_toArray, List.getElem_cons_zero, List.getElem_cons_succ, List.setIfInBounds_toArray, List.set_cons_zero, List.set_cons_succ]
        refine wpAnyH_tk (i := 21) (v := ?_) (LN := #[true, true, true, true, true, true, true, true, true, true, true, true, true, true, true, true, true, true, true, true, true, true, false, false, true, false, false]) rfl (by kernel_rfl) (by kernel_rfl) (by kernel_rfl) (fun _ _ _ h => h) (by kernel_rfl) (by rfl) (by assumption) ?_ ?_
        rotate_left
        · intro w hSw; (try dsimp only at hSw); first | (go_simp; done) | (go_simp; with_reducible rfl)
        try simp only [Act.put, List.getElem_toArray, List.getElem_cons_zero, List.getElem_cons_succ, List.setIfInBounds_toArray, List.set_cons_zero, List.set_cons_succ]
        refine wpAnyH_tk (i := 22) (v := ?_) (LN := #[true, true, true, true, true, true, true, true, true, true, true, true, true, true, true, true, true, true, true, true, true, true, true, false, true, false, false]) rfl (by kernel_rfl) (by kernel_rfl) (by kernel_rfl) (fun _ _ _ h => h) (by kernel_rfl) (by rfl) (by assumption) ?_ ?_
        rotate_left
        · intro w hSw; (try dsimp only at hSw); first | (go_simp; done) | (go_simp; with_reducible rfl)
        try simp only [Act.put, List.getElem_toArray, List.getElem_cons_zero, List.getElem_cons_succ, List.setIfInBounds_toArray, List.set_cons_zero, List.set_cons_succ]
        refine wpAnyH_tk (i := 23) (v := ?_) (LN := #[true, true, true, true, true, true, true, true, true, true, true, true, true, true, true, true, true, true, true, true, true, true, true, true, true, false, false]) rfl (by kernel_rfl) (by kernel_rfl) (by kernel_rfl) (fun _ _ _ h => h) (by kernel_rfl) (by rfl) (by assumption) ?_ ?_
        rotate_left
        · intro w hSw; (try dsimp only at hSw); first | (go_simp; done) | (go_simp; with_reducible rfl)
        try simp only [Act.put, List.getElem_toArray, List.getElem_cons_zero, List.getElem_cons_succ, List.setIfInBounds_toArray, List.set_cons_zero, List.set_cons_succ]
        refine wpAnyH_one (i := 25) (LN := #[true, true, true, true, true, true, true, true, true, true, true, true, true, true, true, true, true, true, true, true, true, true, true, true, true, true, false]) (by kernel_rfl) rfl (by kernel_rfl) ?_
        intro K hK
        refine step_store_sat (off := 0) (n := 20) rfl 46 _ _ rfl Sc4.tail rfl rfl HNL.out (by decide) Tryz.sizeS (svals_one N) ?_
        intro w12 SF
        rw [zstore] at SF
        refine hK.out _ _ ⟨(d_at (SF.sel [1])).game, (d_at (SF.sel [1])).seed, (d_at (SF.sel [1])).d, (d_at (SF.sel [1])).qp⟩ ?_
        clear hK K hHeld
        intro hHeld
        try simp only [Act.put, List.getElem_toArray, List.getElem_cons_zero, List.getElem_cons_succ, List.setIfInBounds_toArray, List.set_cons_zero, List.set_cons_succ]
        refine wpAnyH_tk (i := 26) (v := ?_) (LN := #[true, true, true, true, true, true, true, true, true, true, true, true, true, true, true, true, true, true, true, true, true, true, true, true, true, true, true]) rfl (by kernel_rfl) (by kernel_rfl) (by kernel_rfl) (fun _ _ _ h => h) (by kernel_rfl) (by rfl) (by assumption) ?_ ?_
        rotate_left
        · intro w hSw; (try dsimp only at hSw); first | (go_simp; done) | (go_simp; with_reducible rfl)
        try simp only [Act.put, List.getElem_toArray, List.getElem_cons_zero, List.getElem_cons_succ, List.setIfInBounds_toArray, List.set_cons_zero, List.set_cons_succ]
        refine ⟨by kernel_rfl, ?_⟩
        try simp only [Act.put, List.getElem_toArray, List.getElem_cons_zero, List.getElem_cons_succ, List.setIfInBounds_toArray, List.set_cons_zero, List.set_cons_succ]
        go_wp2_with fail
        go_meet
        exact ⟨_, rfl, SF⟩
    · intro K hK
      go_simp
      have Sc1 := (S4.alloc [.int .i64 0, .int .i32 0, .int .i32 0, .int .i32 0, .int .i32 0, .int .i32 0, .int .i32 0, .int .i32 0, .int .i32 0, .int .i32 0, .int .i32 0, .int .i32 0, .int .i32 0, .int .i32 0, .int .i32 0, .int .i32 0, .int .i32 0, .int .u32 0, .bool false, .int .i64 0] 46)
      try simp only [World.size_alloc] at Sc1
      refine hK.out _ _ ⟨(d_at (Sc1.sel [1])).game, (d_at (Sc1.sel [1])).seed, (d_at (Sc1.sel [1])).d, (d_at (Sc1.sel [1])).qp⟩ ?_
      clear hK K hHeld
      intro hHeld
      try simp only [Act.put, List.getElem_toArray, List.getElem_cons_zero, List.getElem_cons_succ, List.setIfInBounds_toArray, List.set_cons_zero, List.set_cons_succ]
      refine wpAnyH_one (i := 17) (LN := #[true, true, true, true, true, true, true, true, true, true, true, true, true, true, true, true, true, true, false, false, false, false, false, false, true, false, false]) (by kernel_rfl) rfl (by kernel_rfl) ?_
      intro K hK
      go_simp
      go_at_call 41
      first
        | refine (rboth_any (Sc1.sel [1]) HG.out.qo).mono ?_
        | refine (rboth_any (Sc1.sel [2]) HG.out.qo).mono ?_
      rintro e w8 ⟨rfl, rfl⟩
      have Sc2 := Sc1
      go_wp2_with fail
      refine hK.out _ _ ⟨(d_at (Sc2.sel [1])).game, (d_at (Sc2.sel [1])).seed, (d_at (Sc2.sel [1])).d, (d_at (Sc2.sel [1])).qp⟩ ?_
      clear hK K hHeld
      intro hHeld
      try simp only [Act.put, List.getElem_toArray, List.getElem_cons_zero, List.getElem_cons_succ, List.setIfInBounds_toArray, List.set_cons_zero, List.set_cons_succ]
      refine wpAnyH_tk (i := 18) (v := ?_) (LN := #[true, true, true, true, true, true, true, true, true, true, true, true, true, true, true, true, true, true, true, false, false, false, false, false, true, false, false]) rfl (by kernel_rfl) (by kernel_rfl) (by kernel_rfl) (fun _ _ _ h => h) (by kernel_rfl) (by rfl) (by assumption) ?_ ?_
      rotate_left
      · intro w hSw; (try dsimp only at hSw); first | (go_simp; done) | (go_simp; with_reducible rfl)
      try simp only [Act.put, List.getElem_toArray, List.getElem_cons_zero, List.getElem_cons_succ, List.setIfInBounds_toArray, List.set_cons_zero, List.set_cons_succ]
      refine wpAnyH_one (i := 19) (LN := #[true, true, true, true, true, true, true, true, true, true, true, true, true, true, true, true, true, true, true, true, false, false, false, false, true, false, false]) (by kernel_rfl) rfl (by kernel_rfl) ?_
      intro K hK
      go_simp
      go_at_call 40
      first
        | (refine (dUsed_any Sc2 HG.out.qo hm6).mono ?_; unfold Useds; rintro e w9 ⟨ao, cp, rfl, Sc3⟩)
        | (refine (dUsed_any (Sc2.sel [1, 1]) HG.out.qo hm6).mono ?_; unfold Useds; rintro e w9 ⟨ao, cp, rfl, Sx⟩; have Sc3 := Sx.sel [0, 2])
      go_wp2_with fail
      refine hK.out _ _ ⟨(d_at (Sc3.sel [2])).game, (d_at (Sc3.sel [2])).seed, (d_at (Sc3.sel [2])).d, (d_at (Sc3.sel [2])).qp⟩ ?_
      clear hK K hHeld
      intro hHeld
      try simp only [Act.put, List.getElem_toArray, List.getElem_cons_zero, List.getElem_cons_succ, List.setIfInBounds_toArray, List.set_cons_zero, List.set_cons_succ]
      refine wpAnyH_one (i := 20) (LN := #[true, true, true, true, true, true, true, true, true, true, true, true, true, true, true, true, true, true, true, true, true, false, false, false, true, false, false]) (by kernel_rfl) rfl (by kernel_rfl) ?_
      intro K hK
      go_simp
      go_at_call 13
      refine (r11play_any Sc3 (fun w' h => HRD.out _ _ h) HN.out hnm J.cap J.fuel J.seed HG.out.hs (fun w' h => by rw [← pv_pairsv]; exact h.own_rd) (usedQ_length _ _) (by omega) (usedQ_u16 (rbq_qb HG.out.qr) _)).mono ?_
      unfold Stepped
      rw [HPL.out]
      rintro e w11 ⟨rfl, Sc4⟩
      go_wp2_with fail
      refine hK.out _ _ ⟨(d_at (Sc4.sel [2])).game, (d_at (Sc4.sel [2])).seed, (d_at (Sc4.sel [2])).d, (d_at (Sc4.sel [2])).qp⟩ ?_
      clear hK K hHeld
      intro hHeld
      try simp only [Act.put, List.getElem_toArray, List.getElem_cons_zero, List.getElem_cons_succ, List.setIfInBounds_toArray, List.set_cons_zero, List.set_cons_succ]
      refine wpAnyH_tk (i := 21) (v := ?_) (LN := #[true, true, true, true, true, true, true, true, true, true, true, true, true, true, true, true, true, true, true, true, true, true, false, false, true, false, false]) rfl (by kernel_rfl) (by kernel_rfl) (by kernel_rfl) (fun _ _ _ h => h) (by kernel_rfl) (by rfl) (by assumption) ?_ ?_
      rotate_left
      · intro w hSw; (try dsimp only at hSw); first | (go_simp; done) | (go_simp; with_reducible rfl)
      try simp only [Act.put, List.getElem_toArray, List.getElem_cons_zero, List.getElem_cons_succ, List.setIfInBounds_toArray, List.set_cons_zero, List.set_cons_succ]
      refine wpAnyH_tk (i := 22) (v := ?_) (LN := #[true, true, true, true, true, true, true, true, true, true, true, true, true, true, true, true, true, true, true, true, true, true, true, false, true, false, false]) rfl (by kernel_rfl) (by kernel_rfl) (by kernel_rfl) (fun _ _ _ h => h) (by kernel_rfl) (by rfl) (by assumption) ?_ ?_
      rotate_left
      · intro w hSw; (try dsimp only at hSw); first | (go_simp; done) | (go_simp; with_reducible rfl)
      try simp only [Act.put, List.getElem_toArray, List.getElem_cons_zero, List.getElem_cons_succ, List.setIfInBounds_toArray, List.set_cons_zero, List.set_cons_succ]
      refine wpAnyH_tk (i := 23) (v := ?_) (LN := #[true, true, true, true, true, true, true, true, true, true, true, true, true, true, true, true, true, true, true, true, true, true, true, true, true, false, false]) rfl (by kernel_rfl) (by kernel_rfl) (by kernel_rfl) (fun _ _ _ h => h) (by kernel_rfl) (by rfl) (by assumption) ?_ ?_
      rotate_left
      · intro w hSw; (try dsimp only at hSw); first | (go_simp; done) | (go_simp; with_reducible rfl)
      try simp only [Act.put, List.getElem_toArray, List.getElem_cons_zero, List.getElem_cons_succ, List.setIfInBounds_toArray, List.set_cons_zero, List.set_cons_succ]
      refine wpAnyH_one (i := 25) (LN := #[true, true, true, true, true, true, true, true, true, true, true, true, true, true, true, true, true, true, true, true, true, true, true, true, true, true, false]) (by kernel_rfl) rfl (by kernel_rfl) ?_
      intro K hK
      refine step_store_sat (off := 0) (n := 20) rfl 46 _ _ rfl Sc4.tail rfl rfl HNL.out (by decide) Tryz.sizeS (svals_one N) ?_
      intro w12 SF
      rw [zstore] at SF
      refine hK.out _ _ ⟨(d_at (SF.sel [1])).game, (d_at (SF.sel [1])).seed, (d_at (SF.sel [1])).d, (d_at (SF.sel [1])).qp⟩ ?_
      clear hK K hHeld
      intro hHeld
      try simp only [Act.put, List.getElem_toArray, List.getElem_cons_zero, List.getElem_cons_succ, List.setIfInBounds_toArray, List.set_cons_zero, List.set_cons_succ]
      refine wpAnyH_tk (i := 26) (v := ?_) (LN := #[true, true, true, true, true, true, true, true, true, true, true, true, true, true, true, true, true, true, true, true, true, true, true, true, true, true, true]) rfl (by kernel_rfl) (by kernel_rfl) (by kernel_rfl) (fun _ _ _ h => h) (by kernel_rfl) (by rfl) (by assumption) ?_ ?_
      rotate_left
      · intro w hSw; (try dsimp only at hSw); first | (go_simp; done) | (go_simp; with_reducible rfl)
      try simp only [Act.put, List.getElem_toArray, List.getElem_cons_zero, List.getElem_cons_succ, List.setIfInBounds_toArray, List.set_cons_zero, List.set_cons_succ]
      refine ⟨by kernel_rfl, ?_⟩
      try simp only [Act.put, List.getElem_toArray, List.getElem_cons_zero, List.getElem_cons_succ, List.setIfInBounds_toArray, List.set_cons_zero, List.set_cons_succ]
      go_wp2_with fail
      go_meet
      exact ⟨_, rfl, SF⟩
  case rest =>
    obtain ⟨y, rfl, S5⟩ := hcut
    clear S2 S4
    go_wp2_with (first
      | (refine wpList_load_part rfl 46 _ rfl (n := 20) rfl (Sat.whole S5 20) HNL.out Tryz.underlying46 rfl Tryz.sizeS ?_)
      | (refine wpList_store_sat (off := 0) (n := 20) rfl 46 _ _ rfl (S5.sel [3]) rfl rfl HNL.out (by decide) Tryz.sizeS (svals_one N) ?_; intro w6 S6; rw [zstore] at S6))
    exact bodyPost_ret (results_cell_sat rfl _ S6 rfl Tryz.underlying46 rfl (by rw [HNL.out]; exact Tryz.sizeS)) rfl ⟨rfl, S6.tail.tail⟩
end Go.Proofs.YtjdeeloemhjbhaaGreat
end

section
namespace Go.Proofs.YtjdeeloemhjbhaaGreat
open Go.RowKit Go.Sep Go.Oct Go.Vm Go.Inp
set_option linter.unusedSimpArgs false

theorem fldF {s : VS} (h : s.cells.length = 16) (w : World) : (Instr.field 46 (.agg (svals s).toArray) 0).run Tryz.prog w = .ok (.int .i64 s.frame) w := by
  obtain ⟨f, cells, seed, over, winner⟩ := s
  obtain ⟨c0, c1, c2, c3, c4, c5, c6, c7, c8, c9, c10, c11, c12, c13, c14, c15, rfl⟩ := list16 h
  kernel_rfl
theorem fldO {s : VS} (h : s.cells.length = 16) (w : World) : (Instr.field 46 (.agg (svals s).toArray) 3).run Tryz.prog w = .ok (.bool s.over) w := by
  obtain ⟨f, cells, seed, over, winner⟩ := s
  obtain ⟨c0, c1, c2, c3, c4, c5, c6, c7, c8, c9, c10, c11, c12, c13, c14, c15, rfl⟩ := list16 h
  kernel_rfl
theorem SK.Good.now {J : SK} {s : PS} {c : Nat} (G : J.Good s c) : (J.now s).Ok := (stA_goes G.hk G.hs (rbq_qb G.qr) s.d).1.ok
theorem SK.Good.sure {J : SK} {s : PS} {c : Nat} (G : J.Good s c) : (J.sure s).Ok := (stA_goes G.hk G.hs (rbq_qb G.qr) (sureN s.q s.d)).1.ok
theorem SK.Good.sfr {J : SK} {s : PS} {c : Nat} (G : J.Good s c) : 0 ≤ (J.sure s).frame ∧ (J.sure s).frame ≤ 600 := by
  have h := (stA_goes G.hk G.hs (rbq_qb G.qr) (sureN s.q s.d)).1.frame
  have := (check_ok G.hk).2.2.2.1
  exact ⟨h.1, Int.le_trans h.2 this⟩
theorem SK.Good.nfr {J : SK} {s : PS} {c : Nat} (G : J.Good s c) : 0 ≤ (J.now s).frame ∧ (J.now s).frame ≤ 600 := by
  have h := (stA_goes G.hk G.hs (rbq_qb G.qr) s.d).1.frame
  have := (check_ok G.hk).2.2.2.1
  exact ⟨h.1, Int.le_trans h.2 this⟩
set_option maxRecDepth 100000 in
set_option maxHeartbeats 1600000 in
theorem dNeeds_any {W0 w : World} {L : List Asn} {g qp : Nat} {a : Option Addr} {n c : Nat} {J : SK} {s : PS} {cc : Nat} (S : Sat W0 w (blk g (dcv a n c J qp s) 64 :: RQu qp s.q :: L)) (G : J.Good s cc) :
    Calls Tryz.prog 23 #[.pointer (some ⟨g, 0, none⟩)] w fun e w' => e = .returned (.int .i64 (s.q.known (1 - J.me))) ∧ Sat W0 w' (blk g (dcv a n c J qp s) 64 :: RQu qp s.q :: L) := by
  have hwo : IntKind.i64.wrap (1 - J.me) = 1 - J.me := by rw [IntKind.wrap_i64]; rcases G.seat with e | e <;> rw [e] <;> omega
  have hqo := G.qo
  clear G
  go_enter Tryz.func23, Tryz.ntmps23
  go_upto_region 1 with fail
  refine wp_region_drawn (N := 11) (LN := #[false, false, false, false, false, false, false, false, false, false, false]) (by kernel_rfl) (by kernel_rfl) (by kernel_rfl) ?_
  have S4 := S.drew
  generalize w.drew = w4 at S4 ⊢
  clear S
  have c3 := (d_at S4).me
  have c4 := (d_at S4).qp
  refine wpAny_seg 0 9 2 11 #[true, true, true, true, true, true, true, true, true, false, false] (by kernel_rfl) (by kernel_rfl) ?_
  simp only [List.take_succ_cons, List.take_zero, List.drop_succ_cons, List.drop_zero]
  refine wpStill_step (fun K hK => ?_); go_simp; refine hK _ ?_; clear hK K
  try simp only [Act.put, List.getElem_toArray, List.getElem_cons_zero, List.getElem_cons_succ, List.setIfInBounds_toArray, List.set_cons_zero, List.set_cons_succ]
  refine wpStill_step (fun K hK => ?_); go_simp; refine hK _ ?_; clear hK K
  try simp only [Act.put, List.getElem_toArray, List.getElem_cons_zero, List.getElem_cons_succ, List.setIfInBounds_toArray, List.set_cons_zero, List.set_cons_succ]
  refine wpStill_step (fun K hK => ?_); go_simp; refine hK _ ?_; clear hK K
  try simp only [Act.put, List.getElem_toArray, List.getElem_cons_zero, List.getElem_cons_succ, List.setIfInBounds_toArray, List.set_cons_zero, List.set_cons_succ]
  refine wpStill_step (fun K hK => ?_); go_simp; refine hK _ ?_; clear hK K
  try simp only [Act.put, List.getElem_toArray, List.getElem_cons_zero, List.getElem_cons_succ, List.setIfInBounds_toArray, List.set_cons_zero, List.set_cons_succ]
  refine wpStill_step (fun K hK => ?_); go_simp; refine hK _ ?_; clear hK K
  try simp only [Act.put, List.getElem_toArray, List.getElem_cons_zero, List.getElem_cons_succ, List.setIfInBounds_toArray, List.set_cons_zero, List.set_cons_succ]
  refine wpStill_step (fun K hK => ?_); go_simp; refine hK _ ?_; clear hK K
  try simp only [Act.put, List.getElem_toArray, List.getElem_cons_zero, List.getElem_cons_succ, List.setIfInBounds_toArray, List.set_cons_zero, List.set_cons_succ]
  refine wpStill_step (fun K hK => ?_); go_simp; refine hK _ ?_; clear hK K
  try simp only [Act.put, List.getElem_toArray, List.getElem_cons_zero, List.getElem_cons_succ, List.setIfInBounds_toArray, List.set_cons_zero, List.set_cons_succ]
  refine wpStill_step (fun K hK => ?_); go_simp; refine hK _ ?_; clear hK K
  try simp only [Act.put, List.getElem_toArray, List.getElem_cons_zero, List.getElem_cons_succ, List.setIfInBounds_toArray, List.set_cons_zero, List.set_cons_succ]
  refine wpStill_step (fun K hK => ?_); go_simp; refine hK _ ?_; clear hK K
  try simp only [Act.put, List.getElem_toArray, List.getElem_cons_zero, List.getElem_cons_succ, List.setIfInBounds_toArray, List.set_cons_zero, List.set_cons_succ]
  refine wpStill_nil ?_
  refine wpAny_one (i := 9) (LN := #[true, true, true, true, true, true, true, true, true, true, false]) (by kernel_rfl) rfl (by kernel_rfl) ?_
  intro K hK
  go_simp
  go_at_call 43
  refine (rknown_any (S4.sel [1]) hqo (1 - J.me)).mono ?_
  rintro e w5 ⟨rfl, rfl⟩
  go_wp2_with fail
  refine hK.out _ _ ?_
  clear hK K
  try simp only [Act.put, List.getElem_toArray, List.getElem_cons_zero, List.getElem_cons_succ, List.setIfInBounds_toArray, List.set_cons_zero, List.set_cons_succ]
  refine wpAny_loc (i := 10) (v := ?_) (LN := #[true, true, true, true, true, true, true, true, true, true, true]) rfl (by kernel_rfl) (by kernel_rfl) (by kernel_rfl) (fun _ _ _ h => h) (by kernel_rfl) (by rfl) ?_ ?_
  rotate_left
  · intro w; first | (go_simp; done) | (go_simp; with_reducible rfl)
  try simp only [Act.put, List.getElem_toArray, List.getElem_cons_zero, List.getElem_cons_succ, List.setIfInBounds_toArray, List.set_cons_zero, List.set_cons_succ]
  refine ⟨by kernel_rfl, ?_⟩
  try simp only [Act.put, List.getElem_toArray, List.getElem_cons_zero, List.getElem_cons_succ, List.setIfInBounds_toArray, List.set_cons_zero, List.set_cons_succ]
  go_wp2_with fail
  go_ret
  exact ⟨rfl, S4⟩
def DLoced (W0 : World) (L : List Asn) (g qp : Nat) (a : Option Addr) (n c : Nat) (J : SK) (s : PS) (x : Int) (e : Ending) (w' : World) : Prop :=
  e = .returned (.tuple #[.int .i64 (J.loc s x).1.1, .int .i64 (J.loc s x).1.2]) ∧ Sat W0 w' (blk g (dcv a n c J qp (J.loc s x).2) 64 :: RQu qp (J.loc s x).2.q :: L)
set_option maxRecDepth 100000 in
set_option maxHeartbeats 3200000 in
theorem dLoc_any {W0 w : World} {L : List Asn} {g qp : Nat} {a : Option Addr} {n c : Nat} {J : SK} {s : PS} {cc : Nat} (S : Sat W0 w (blk g (dcv a n c J qp s) 64 :: RQu qp s.q :: L)) (G : J.Good s cc) (hcc : cc ≤ 10000) (hRD : ∀ (M : List Asn) (w' : World), Sat W0 w' M → Rd w' a (insv J.code)) (hn : J.code.length = n) (x : Int) :
    Calls Tryz.prog 16 #[.pointer (some ⟨g, 0, none⟩), .int .u16 x] w (DLoced W0 L g qp a n c J s x) := by
  have hNow := fun w (S : Sat W0 w (blk g (dcv a n c J qp s) 64 :: RQu qp s.q :: L)) => dNow_any S G hRD hn
  have hSure := fun w (S : Sat W0 w (blk g (dcv a n c J qp s) 64 :: RQu qp s.q :: L)) => dSure_any S G hRD hn
  have HNOW := Lib.hid hNow
  have HSURE := Lib.hid hSure
  clear hNow hSure
  have hfo := fldO G.now.len
  have hff := fldF G.sure.len
  have hsf := G.sfr
  have hst := G.st
  have hdn := G.dn
  have hqo := G.qo
  have HG := Lib.hid G
  unfold DLoced
  cases ho : (J.now s).over with
  | true =>
    have e0 : J.loc s x = ((0, 12), s) := by unfold SK.loc; rw [if_pos ho]
    rw [e0]
    rw [ho] at hfo
    clear G
    go_enter Tryz.func16, Tryz.ntmps16
    go_wp2_with (first
      | (go_at_call 20; refine (HNOW.out _ S).mono ?_; rintro e w2 ⟨rfl, S2⟩))
    go_ret2
    exact ⟨rfl, S2⟩
  | false =>
    rw [ho] at hfo
    obtain ⟨F, hF⟩ : ∃ F, (J.sure s).frame = F := ⟨_, rfl⟩
    rw [hF] at hff hsf
    have hw8 : IntKind.i64.wrap (F + 8) = F + 8 := by rw [IntKind.wrap_i64]; omega
    by_cases hf : F + 8 ≤ (s.d : Int)
    · have hd : decide (F + 8 ≤ (s.d : Int)) = true := decide_eq_true hf
      have e0 : J.loc s x = ((0, 13), s) := by unfold SK.loc; rw [if_neg (by rw [ho]; simp), if_pos (by rw [hF]; exact hf)]
      rw [e0]
      clear G hF
      go_enter Tryz.func16, Tryz.ntmps16
      go_upto_region 3 with (first
        | (go_at_call 20; refine (HNOW.out _ S).mono ?_; rintro e w2 ⟨rfl, S2⟩))
      refine wp_region_drawn (N := 9) (LN := #[false, false, false, false, false, false, false, false, false]) (by kernel_rfl) (by kernel_rfl) (by kernel_rfl) ?_
      have S4 := S2.drew
      generalize w2.drew = w4 at S4 ⊢
      clear S2
      refine wpAny_held (fun w' => w'.cell? ⟨g, 6, none⟩ = some (.int .i64 s.d)) ((d_at S4).d) (fun hHeld => ?_)
      refine wpAnyH_tk (i := 0) (v := ?_) (LN := #[true, false, false, false, false, false, false, false, false]) rfl (by kernel_rfl) (by kernel_rfl) (by kernel_rfl) (fun _ _ _ h => h) (by kernel_rfl) (by rfl) (by assumption) ?_ ?_
      rotate_left
      · intro w hSw; (try dsimp only at hSw); first | (go_simp; done) | (go_simp; with_reducible rfl)
      try simp only [Act.put, List.getElem_toArray, List.getElem_cons_zero, List.getElem_cons_succ, List.setIfInBounds_toArray, List.set_cons_zero, List.set_cons_succ]
      refine wpAnyH_tk (i := 1) (v := ?_) (LN := #[true, true, false, false, false, false, false, false, false]) rfl (by kernel_rfl) (by kernel_rfl) (by kernel_rfl) (fun _ _ _ h => h) (by kernel_rfl) (by rfl) (by assumption) ?_ ?_
      rotate_left
      · intro w hSw; (try dsimp only at hSw); first | (go_simp; done) | (go_simp; with_reducible rfl)
      try simp only [Act.put, List.getElem_toArray, List.getElem_cons_zero, List.getElem_cons_succ, List.setIfInBounds_toArray, List.set_cons_zero, List.set_cons_succ]
      refine wpAnyH_tk (i := 2) (v := ?_) (LN := #[true, true, true, false, false, false, false, false, false]) rfl (by kernel_rfl) (by kernel_rfl) (by kernel_rfl) (fun _ _ _ h => h) (by kernel_rfl) (by rfl) (by assumption) ?_ ?_
      rotate_left
      · intro w hSw; (try dsimp only at hSw); first | (go_simp; done) | (go_simp; with_reducible rfl)
      try simp only [Act.put, List.getElem_toArray, List.getElem_cons_zero, List.getElem_cons_succ, List.setIfInBounds_toArray, List.set_cons_zero, List.set_cons_succ]
      refine wpAnyH_tk (i := 3) (v := ?_) (LN := #[true, true, true, true, false, false, false, false, false]) rfl (by kernel_rfl) (by kernel_rfl) (by kernel_rfl) (fun _ _ _ h => h) (by kernel_rfl) (by rfl) (by assumption) ?_ ?_
      rotate_left
      · intro w hSw; (try dsimp only at hSw); first | (go_simp; done) | (go_simp; with_reducible rfl)
      try simp only [Act.put, List.getElem_toArray, List.getElem_cons_zero, List.getElem_cons_succ, List.setIfInBounds_toArray, List.set_cons_zero, List.set_cons_succ]
      refine wpAnyH_tk (i := 4) (v := ?_) (LN := #[true, true, true, true, true, false, false, false, false]) rfl (by kernel_rfl) (by kernel_rfl) (by kernel_rfl) (fun _ _ _ h => h) (by kernel_rfl) (by rfl) (by assumption) ?_ ?_
      rotate_left
      · intro w hSw; (try dsimp only at hSw); first | (go_simp; done) | (go_simp; with_reducible rfl)
      try simp only [Act.put, List.getElem_toArray, List.getElem_cons_zero, List.getElem_cons_succ, List.setIfInBounds_toArray, List.set_cons_zero, List.set_cons_succ]
      refine wpAnyH_one (i := 5) (LN := #[true, true, true, true, true, true, false, false, false]) (by kernel_rfl) rfl (by kernel_rfl) ?_
      intro K hK
      go_simp
      go_at_call 21
      refine (HSURE.out _ S4).mono ?_
      rintro e w5 ⟨rfl, S5⟩
      go_wp2_with fail
      refine hK.out _ _ ((d_at S5).d) ?_
      clear hK K hHeld
      intro hHeld
      try simp only [Act.put, List.getElem_toArray, List.getElem_cons_zero, List.getElem_cons_succ, List.setIfInBounds_toArray, List.set_cons_zero, List.set_cons_succ]
      refine wpAnyH_tk (i := 6) (v := ?_) (LN := #[true, true, true, true, true, true, true, false, false]) rfl (by kernel_rfl) (by kernel_rfl) (by kernel_rfl) (fun _ _ _ h => h) (by kernel_rfl) (by rfl) (by assumption) ?_ ?_
      rotate_left
      · intro w hSw; (try dsimp only at hSw); first | (go_simp; done) | (go_simp; with_reducible rfl)
      try simp only [Act.put, List.getElem_toArray, List.getElem_cons_zero, List.getElem_cons_succ, List.setIfInBounds_toArray, List.set_cons_zero, List.set_cons_succ]
      refine wpAnyH_tk (i := 7) (v := ?_) (LN := #[true, true, true, true, true, true, true, true, false]) rfl (by kernel_rfl) (by kernel_rfl) (by kernel_rfl) (fun _ _ _ h => h) (by kernel_rfl) (by rfl) (by assumption) ?_ ?_
      rotate_left
      · intro w hSw; (try dsimp only at hSw); first | (go_simp; done) | (go_simp; with_reducible rfl)
      try simp only [Act.put, List.getElem_toArray, List.getElem_cons_zero, List.getElem_cons_succ, List.setIfInBounds_toArray, List.set_cons_zero, List.set_cons_succ]
      refine wpAnyH_tk (i := 8) (v := ?_) (LN := #[true, true, true, true, true, true, true, true, true]) rfl (by kernel_rfl) (by kernel_rfl) (by kernel_rfl) (fun _ _ _ h => h) (by kernel_rfl) (by rfl) (by assumption) ?_ ?_
      rotate_left
      · intro w hSw; (try dsimp only at hSw); first | (go_simp; done) | (go_simp; with_reducible rfl)
      try simp only [Act.put, List.getElem_toArray, List.getElem_cons_zero, List.getElem_cons_succ, List.setIfInBounds_toArray, List.set_cons_zero, List.set_cons_succ]
      refine ⟨by kernel_rfl, ?_⟩
      try simp only [Act.put, List.getElem_toArray, List.getElem_cons_zero, List.getElem_cons_succ, List.setIfInBounds_toArray, List.set_cons_zero, List.set_cons_succ]
      go_wp2_with fail
      go_ret2
      exact ⟨rfl, S5⟩
    · have hd : decide (F + 8 ≤ (s.d : Int)) = false := decide_eq_false hf
      have e0 : J.loc s x = (((s.d : Int), 0), { s with q := s.q.tell J.me s.d x, d := s.d + 1, st := s.st + 1 }) := by unfold SK.loc; rw [if_neg (by rw [ho]; simp), if_neg (by rw [hF]; exact hf)]
      have hdq : s.d < s.q.n := by
        have g := stA_goes G.hk G.hs (rbq_qb G.qr) s.d
        have h1 := g.1.room ho
        have h2 := g.2.2 ho
        have h3 := G.qn
        omega
      have hput : s.q.put J.me s.d x = (0, s.q.tell J.me s.d x) := put_tell G.seat hdq (by rw [G.own]; simp) x
      have hd6 : (s.d : Int) ≤ 600 := by have := (check_ok G.hk).2.2.2.1; have := G.qn; omega
      have hw1 : IntKind.i64.wrap ((s.d : Int) + 1) = (s.d : Int) + 1 := by rw [IntKind.wrap_i64]; omega
      have hw2 : IntKind.i64.wrap (s.st + 1) = s.st + 1 := by rw [IntKind.wrap_i64]; omega
      have hw3 : IntKind.i64.wrap ((s.d : Int) + 1 - 1) = (s.d : Int) := by rw [IntKind.wrap_i64]; omega
      have HPUT := Lib.hid hput
      rw [e0]
      clear G hF hput
      go_enter Tryz.func16, Tryz.ntmps16
      go_upto_region 3 with (first
        | (go_at_call 20; refine (HNOW.out _ S).mono ?_; rintro e w2 ⟨rfl, S2⟩))
      refine wp_region_drawn (N := 9) (LN := #[false, false, false, false, false, false, false, false, false]) (by kernel_rfl) (by kernel_rfl) (by kernel_rfl) ?_
      have S4 := S2.drew
      generalize w2.drew = w4 at S4 ⊢
      clear S2
      refine wpAny_held (fun w' => w'.cell? ⟨g, 6, none⟩ = some (.int .i64 s.d)) ((d_at S4).d) (fun hHeld => ?_)
      refine wpAnyH_tk (i := 0) (v := ?_) (LN := #[true, false, false, false, false, false, false, false, false]) rfl (by kernel_rfl) (by kernel_rfl) (by kernel_rfl) (fun _ _ _ h => h) (by kernel_rfl) (by rfl) (by assumption) ?_ ?_
      rotate_left
      · intro w hSw; (try dsimp only at hSw); first | (go_simp; done) | (go_simp; with_reducible rfl)
      try simp only [Act.put, List.getElem_toArray, List.getElem_cons_zero, List.getElem_cons_succ, List.setIfInBounds_toArray, List.set_cons_zero, List.set_cons_succ]
      refine wpAnyH_tk (i := 1) (v := ?_) (LN := #[true, true, false, false, false, false, false, false, false]) rfl (by kernel_rfl) (by kernel_rfl) (by kernel_rfl) (fun _ _ _ h => h) (by kernel_rfl) (by rfl) (by assumption) ?_ ?_
      rotate_left
      · intro w hSw; (try dsimp only at hSw); first | (go_simp; done) | (go_simp; with_reducible rfl)
      try simp only [Act.put, List.getElem_toArray, List.getElem_cons_zero, List.getElem_cons_succ, List.setIfInBounds_toArray, List.set_cons_zero, List.set_cons_succ]
      refine wpAnyH_tk (i := 2) (v := ?_) (LN := #[true, true, true, false, false, false, false, false, false]) rfl (by kernel_rfl) (by kernel_rfl) (by kernel_rfl) (fun _ _ _ h => h) (by kernel_rfl) (by rfl) (by assumption) ?_ ?_
      rotate_left
      · intro w hSw; (try dsimp only at hSw); first | (go_simp; done) | (go_simp; with_reducible rfl)
      try simp only [Act.put, List.getElem_toArray, List.getElem_cons_zero, List.getElem_cons_succ, List.setIfInBounds_toArray, List.set_cons_zero, List.set_cons_succ]
      refine wpAnyH_tk (i := 3) (v := ?_) (LN := #[true, true, true, true, false, false, false, false, false]) rfl (by kernel_rfl) (by kernel_rfl) (by kernel_rfl) (fun _ _ _ h => h) (by kernel_rfl) (by rfl) (by assumption) ?_ ?_
      rotate_left
      · intro w hSw; (try dsimp only at hSw); first | (go_simp; done) | (go_simp; with_reducible rfl)
      try simp only [Act.put, List.getElem_toArray, List.getElem_cons_zero, List.getElem_cons_succ, List.setIfInBounds_toArray, List.set_cons_zero, List.set_cons_succ]
      refine wpAnyH_tk (i := 4) (v := ?_) (LN := #[true, true, true, true, true, false, false, false, false]) rfl (by kernel_rfl) (by kernel_rfl) (by kernel_rfl) (fun _ _ _ h => h) (by kernel_rfl) (by rfl) (by assumption) ?_ ?_
      rotate_left
      · intro w hSw; (try dsimp only at hSw); first | (go_simp; done) | (go_simp; with_reducible rfl)
      try simp only [Act.put, List.getElem_toArray, List.getElem_cons_zero, List.getElem_cons_succ, List.setIfInBounds_toArray, List.set_cons_zero, List.set_cons_succ]
      refine wpAnyH_one (i := 5) (LN := #[true, true, true, true, true, true, false, false, false]) (by kernel_rfl) rfl (by kernel_rfl) ?_
      intro K hK
      go_simp
      go_at_call 21
      refine (HSURE.out _ S4).mono ?_
      rintro e w5 ⟨rfl, S5⟩
      go_wp2_with fail
      refine hK.out _ _ ((d_at S5).d) ?_
      clear hK K hHeld
      intro hHeld
      try simp only [Act.put, List.getElem_toArray, List.getElem_cons_zero, List.getElem_cons_succ, List.setIfInBounds_toArray, List.set_cons_zero, List.set_cons_succ]
      refine wpAnyH_tk (i := 6) (v := ?_) (LN := #[true, true, true, true, true, true, true, false, false]) rfl (by kernel_rfl) (by kernel_rfl) (by kernel_rfl) (fun _ _ _ h => h) (by kernel_rfl) (by rfl) (by assumption) ?_ ?_
      rotate_left
      · intro w hSw; (try dsimp only at hSw); first | (go_simp; done) | (go_simp; with_reducible rfl)
      try simp only [Act.put, List.getElem_toArray, List.getElem_cons_zero, List.getElem_cons_succ, List.setIfInBounds_toArray, List.set_cons_zero, List.set_cons_succ]
      refine wpAnyH_tk (i := 7) (v := ?_) (LN := #[true, true, true, true, true, true, true, true, false]) rfl (by kernel_rfl) (by kernel_rfl) (by kernel_rfl) (fun _ _ _ h => h) (by kernel_rfl) (by rfl) (by assumption) ?_ ?_
      rotate_left
      · intro w hSw; (try dsimp only at hSw); first | (go_simp; done) | (go_simp; with_reducible rfl)
      try simp only [Act.put, List.getElem_toArray, List.getElem_cons_zero, List.getElem_cons_succ, List.setIfInBounds_toArray, List.set_cons_zero, List.set_cons_succ]
      refine wpAnyH_tk (i := 8) (v := ?_) (LN := #[true, true, true, true, true, true, true, true, true]) rfl (by kernel_rfl) (by kernel_rfl) (by kernel_rfl) (fun _ _ _ h => h) (by kernel_rfl) (by rfl) (by assumption) ?_ ?_
      rotate_left
      · intro w hSw; (try dsimp only at hSw); first | (go_simp; done) | (go_simp; with_reducible rfl)
      try simp only [Act.put, List.getElem_toArray, List.getElem_cons_zero, List.getElem_cons_succ, List.setIfInBounds_toArray, List.set_cons_zero, List.set_cons_succ]
      refine ⟨by kernel_rfl, ?_⟩
      try simp only [Act.put, List.getElem_toArray, List.getElem_cons_zero, List.getElem_cons_succ, List.setIfInBounds_toArray, List.set_cons_zero, List.set_cons_succ]
      clear hHeld
      go_upto_region 5 with fail
      refine wp_region_drawn (N := 14) (LN := #[false, false, false, false, false, false, false, false, false, false, false, false, false, false]) (by kernel_rfl) (by kernel_rfl) (by kernel_rfl) ?_
      have S6 := S5.drew
      generalize w5.drew = w6 at S6 ⊢
      clear S4 S5
      have c3 := (d_at S6).me
      have c4 := (d_at S6).qp
      have c5 := (d_at S6).d
      refine wpAny_seg 0 13 1 14 #[true, true, true, true, true, true, true, true, true, true, true, true, true, false] (by kernel_rfl) (by kernel_rfl) ?_
      simp only [List.take_succ_cons, List.take_zero, List.drop_succ_cons, List.drop_zero]
      refine wpStill_step (fun K hK => ?_); go_simp; refine hK _ ?_; clear hK K
      try simp only [Act.put, List.getElem_toArray, List.getElem_cons_zero, List.getElem_cons_succ, List.setIfInBounds_toArray, List.set_cons_zero, List.set_cons_succ]
      refine wpStill_step (fun K hK => ?_); go_simp; refine hK _ ?_; clear hK K
      try simp only [Act.put, List.getElem_toArray, List.getElem_cons_zero, List.getElem_cons_succ, List.setIfInBounds_toArray, List.set_cons_zero, List.set_cons_succ]
      refine wpStill_step (fun K hK => ?_); go_simp; refine hK _ ?_; clear hK K
      try simp only [Act.put, List.getElem_toArray, List.getElem_cons_zero, List.getElem_cons_succ, List.setIfInBounds_toArray, List.set_cons_zero, List.set_cons_succ]
      refine wpStill_step (fun K hK => ?_); go_simp; refine hK _ ?_; clear hK K
      try simp only [Act.put, List.getElem_toArray, List.getElem_cons_zero, List.getElem_cons_succ, List.setIfInBounds_toArray, List.set_cons_zero, List.set_cons_succ]
      refine wpStill_step (fun K hK => ?_); go_simp; refine hK _ ?_; clear hK K
      try simp only [Act.put, List.getElem_toArray, List.getElem_cons_zero, List.getElem_cons_succ, List.setIfInBounds_toArray, List.set_cons_zero, List.set_cons_succ]
      refine wpStill_step (fun K hK => ?_); go_simp; refine hK _ ?_; clear hK K
      try simp only [Act.put, List.getElem_toArray, List.getElem_cons_zero, List.getElem_cons_succ, List.setIfInBounds_toArray, List.set_cons_zero, List.set_cons_succ]
      refine wpStill_step (fun K hK => ?_); go_simp; refine hK _ ?_; clear hK K
      try simp only [Act.put, List.getElem_toArray, List.getElem_cons_zero, List.getElem_cons_succ, List.setIfInBounds_toArray, List.set_cons_zero, List.set_cons_succ]
      refine wpStill_step (fun K hK => ?_); go_simp; refine hK _ ?_; clear hK K
      try simp only [Act.put, List.getElem_toArray, List.getElem_cons_zero, List.getElem_cons_succ, List.setIfInBounds_toArray, List.set_cons_zero, List.set_cons_succ]
      refine wpStill_step (fun K hK => ?_); go_simp; refine hK _ ?_; clear hK K
      try simp only [Act.put, List.getElem_toArray, List.getElem_cons_zero, List.getElem_cons_succ, List.setIfInBounds_toArray, List.set_cons_zero, List.set_cons_succ]
      refine wpStill_step (fun K hK => ?_); go_simp; refine hK _ ?_; clear hK K
      try simp only [Act.put, List.getElem_toArray, List.getElem_cons_zero, List.getElem_cons_succ, List.setIfInBounds_toArray, List.set_cons_zero, List.set_cons_succ]
      refine wpStill_step (fun K hK => ?_); go_simp; refine hK _ ?_; clear hK K
      try simp only [Act.put, List.getElem_toArray, List.getElem_cons_zero, List.getElem_cons_succ, List.setIfInBounds_toArray, List.set_cons_zero, List.set_cons_succ]
      refine wpStill_step (fun K hK => ?_); go_simp; refine hK _ ?_; clear hK K
      try simp only [Act.put, List.getElem_toArray, List.getElem_cons_zero, List.getElem_cons_succ, List.setIfInBounds_toArray, List.set_cons_zero, List.set_cons_succ]
      refine wpStill_step (fun K hK => ?_); go_simp; refine hK _ ?_; clear hK K
      try simp only [Act.put, List.getElem_toArray, List.getElem_cons_zero, List.getElem_cons_succ, List.setIfInBounds_toArray, List.set_cons_zero, List.set_cons_succ]
      refine wpStill_nil ?_
      refine wpAny_one (i := 13) (LN := #[true, true, true, true, true, true, true, true, true, true, true, true, true, true]) (by kernel_rfl) rfl (by kernel_rfl) ?_
      intro K hK
      go_simp
      go_at_call 38
      refine (rput_any (S6.sel [1]) hqo J.me s.d x).mono ?_
      unfold RPutted
      rw [HPUT.out]
      rintro e w7 ⟨rfl, S7⟩
      go_wp2_with fail
      refine hK.out _ _ ?_
      clear hK K
      try simp only [Act.put, List.getElem_toArray, List.getElem_cons_zero, List.getElem_cons_succ, List.setIfInBounds_toArray, List.set_cons_zero, List.set_cons_succ]
      refine ⟨by kernel_rfl, ?_⟩
      try simp only [Act.put, List.getElem_toArray, List.getElem_cons_zero, List.getElem_cons_succ, List.setIfInBounds_toArray, List.set_cons_zero, List.set_cons_succ]
      clear c3 c4 c5 S6
      have S8 : Sat W0 w7 (blk g (dcv a n c J qp s) 64 :: RQu qp (s.q.tell J.me s.d x) :: L) := S7.swap
      have c6 := (d_at S8).d
      have z6 := (d_at S8).fz 6
      go_upto_region 7 with fail
      have S9 := S8.setCell (k := 6) (v := .int .i64 ((s.d : Int) + 1)) 0 rfl
      generalize World.setCell w7 _ _ = w9 at S9 ⊢
      clear c6 z6 S7 S8
      have c7 : w9.cell? ⟨g, 7, none⟩ = some (.int .i64 s.st) := S9.cell 0 rfl 7
      have z7 := S9.frozen 0 rfl 7
      go_upto_region 8 with fail
      have S10 := S9.setCell (k := 7) (v := .int .i64 (s.st + 1)) 0 rfl
      generalize World.setCell w9 _ _ = w10 at S10 ⊢
      clear c7 z7 S9
      have c6 : w10.cell? ⟨g, 6, none⟩ = some (.int .i64 ((s.d : Int) + 1)) := S10.cell 0 rfl 6
      go_wp2_with fail
      go_ret2
      exact ⟨rfl, S10⟩
end Go.Proofs.YtjdeeloemhjbhaaGreat
end

section
namespace Go.Proofs.YtjdeeloemhjbhaaGreat
open Go.RowKit Go.Sep Go.Oct Go.Vm Go.Inp
set_option linter.unusedSimpArgs false

def DRemed (W0 : World) (L : List Asn) (g qp : Nat) (a : Option Addr) (n c : Nat) (J : SK) (s : PS) (fr x : Int) (e : Ending) (w' : World) : Prop :=
  e = .returned (.int .i64 (J.rem s fr x).1) ∧ Sat W0 w' (blk g (dcv a n c J qp (J.rem s fr x).2) 64 :: RQu qp (J.rem s fr x).2.q :: L)
set_option maxRecDepth 100000 in
set_option maxHeartbeats 6400000 in
theorem dRem_any {W0 w : World} {L : List Asn} {g qp : Nat} {a : Option Addr} {n c : Nat} {J : SK} {s : PS} {cc : Nat} (S : Sat W0 w (blk g (dcv a n c J qp s) 64 :: RQu qp s.q :: L)) (G : J.Good s cc) (hcc : cc ≤ 10000) (hRD : ∀ (M : List Asn) (w' : World), Sat W0 w' M → Rd w' a (insv J.code)) (hn : J.code.length = n) (fr : Int) {x : Int} (hx : 0 ≤ x ∧ x < 65536) :
    Calls Tryz.prog 17 #[.pointer (some ⟨g, 0, none⟩), .int .i64 fr, .int .u16 x] w (DRemed W0 L g qp a n c J s fr x) := by
  unfold DRemed
  by_cases h1 : fr < 0 ∨ J.cap ≤ fr
  · have e0 : J.rem s fr x = (1, s) := by unfold SK.rem; rw [if_pos h1]
    rw [e0]
    have c1 := (d_at S).cap
    by_cases h0 : fr < 0
    · have d1 : decide (fr < 0) = true := decide_eq_true h0
      clear h1 h0 hx G
      go_enter Tryz.func17, Tryz.ntmps17
      go_wp2_with fail
      go_ret
      exact ⟨rfl, S⟩
    · have d1 : decide (fr < 0) = false := decide_eq_false h0
      have d2 : decide (J.cap ≤ fr) = true := decide_eq_true (by omega)
      clear h1 h0 hx G
      go_enter Tryz.func17, Tryz.ntmps17
      go_wp2_with fail
      go_ret
      exact ⟨rfl, S⟩
  · have d1 : decide (fr < 0) = false := decide_eq_false (by omega)
    have d2 : decide (J.cap ≤ fr) = false := decide_eq_false (by omega)
    have c1 := (d_at S).cap
    have HSURE := Lib.hid (fun w (S : Sat W0 w (blk g (dcv a n c J qp s) 64 :: RQu qp s.q :: L)) => dSure_any S G hRD hn)
    have HNOW := Lib.hid (fun w M (S : Sat W0 w (blk g (dcv a n c J qp s) 64 :: RQu qp s.q :: M)) => dNow_any S G hRD hn)
    have hsok := G.sure
    have hsf := G.sfr
    obtain ⟨A, hA⟩ : ∃ A, J.sure s = A := ⟨_, rfl⟩
    have hE : J.rem s fr x = if A.over = true then (12, s) else if A.frame + 24 < fr then (13, s) else if (s.q.put (1 - J.me) fr x).1 ≠ 0 then ((s.q.put (1 - J.me) fr x).1, s) else (0, J.told s fr x) := by
      rw [← hA]; unfold SK.rem; rw [if_neg h1]
    rw [hA] at HSURE hsok hsf
    have HAL := Lib.hid (svals_length hsok.len)
    have HAO := Lib.hid hsok
    clear hA hsok
    cases hso : A.over with
    | true =>
      rw [hE, if_pos hso]
      have HSO := Lib.hid hso
      clear hE hso G hx h1
      go_enter Tryz.func17, Tryz.ntmps17
      go_wp2_with (first
        | (go_at_call 21; refine (HSURE.out _ S).mono ?_; rintro e w2 ⟨rfl, S2⟩; have S3 := S2.alloc [.int .i64 0, .int .i32 0, .int .i32 0, .int .i32 0, .int .i32 0, .int .i32 0, .int .i32 0, .int .i32 0, .int .i32 0, .int .i32 0, .int .i32 0, .int .i32 0, .int .i32 0, .int .i32 0, .int .i32 0, .int .i32 0, .int .i32 0, .int .u32 0, .bool false, .int .i64 0] 46)
        | (refine wpList_store_sat (off := 0) (n := 20) rfl 46 _ _ rfl S3 rfl rfl HAL.out (by decide) Tryz.sizeS (svals_one A) ?_; intro w4 S4; rw [zstore] at S4; have co := (st_at HAO.out.len S4).over; rw [HSO.out] at co))
      go_ret
      exact ⟨rfl, S4.tail⟩
    | false =>
      obtain ⟨F, hF⟩ : ∃ F, A.frame = F := ⟨_, rfl⟩
      rw [hF] at hsf hE
      have HSO := Lib.hid hso
      have HF := Lib.hid hF
      rw [if_neg (by rw [hso]; simp)] at hE
      have hw1 : IntKind.i64.wrap (F + 16) = F + 16 := by rw [IntKind.wrap_i64]; omega
      have hw2 : IntKind.i64.wrap (F + 16 + 8) = F + 16 + 8 := by rw [IntKind.wrap_i64]; omega
      clear hso hF
      by_cases h3 : F + 24 < fr
      · have d3 : decide (F + 16 + 8 < fr) = true := decide_eq_true (by omega)
        rw [hE, if_pos h3]
        clear hE G hx h1
        go_enter Tryz.func17, Tryz.ntmps17
        go_wp2_with (first
          | (go_at_call 21; refine (HSURE.out _ S).mono ?_; rintro e w2 ⟨rfl, S2⟩; have S3 := S2.alloc [.int .i64 0, .int .i32 0, .int .i32 0, .int .i32 0, .int .i32 0, .int .i32 0, .int .i32 0, .int .i32 0, .int .i32 0, .int .i32 0, .int .i32 0, .int .i32 0, .int .i32 0, .int .i32 0, .int .i32 0, .int .i32 0, .int .i32 0, .int .u32 0, .bool false, .int .i64 0] 46)
          | (refine wpList_store_sat (off := 0) (n := 20) rfl 46 _ _ rfl S3 rfl rfl HAL.out (by decide) Tryz.sizeS (svals_one A) ?_; intro w4 S4; rw [zstore] at S4; have co := (st_at HAO.out.len S4).over; rw [HSO.out] at co; have cf := (st_at HAO.out.len S4).frame; rw [HF.out] at cf))
        go_ret
        exact ⟨rfl, S4.tail⟩
      · have d3 : decide (F + 16 + 8 < fr) = false := decide_eq_false (by omega)
        rw [if_neg h3] at hE
        have hnok := G.now
        have hnf := G.nfr
        have hqo := G.qo
        have hcap := (check_ok G.hk).2.2.2.1
        have hwo : IntKind.i64.wrap (1 - J.me) = 1 - J.me := by rw [IntKind.wrap_i64]; rcases G.seat with e | e <;> rw [e] <;> omega
        have hff := fldF hnok.len
        obtain ⟨NF, hNF⟩ : ∃ NF, (J.now s).frame = NF := ⟨_, rfl⟩
        rw [hNF] at hff hnf
        obtain ⟨P, hP⟩ : ∃ P, s.q.put (1 - J.me) fr x = P := ⟨_, rfl⟩
        obtain ⟨W, hW⟩ : ∃ W, s.q.get (1 - J.me) fr = W := ⟨_, rfl⟩
        have HP := Lib.hid hP
        have HW := Lib.hid hW
        have HNF := Lib.hid hNF
        have HG := Lib.hid G
        have HE := Lib.hid hE
        have H13 := Lib.hid (⟨h1, h3⟩ : _ ∧ _)
        have hst := G.st
        have hwr := G.wr
        clear hE hP hW hNF hnok
        go_enter Tryz.func17, Tryz.ntmps17
        go_upto_region 8 with (first
          | (go_at_call 21; refine (HSURE.out _ S).mono ?_; rintro e w2 ⟨rfl, S2⟩; have S3 := S2.alloc [.int .i64 0, .int .i32 0, .int .i32 0, .int .i32 0, .int .i32 0, .int .i32 0, .int .i32 0, .int .i32 0, .int .i32 0, .int .i32 0, .int .i32 0, .int .i32 0, .int .i32 0, .int .i32 0, .int .i32 0, .int .i32 0, .int .i32 0, .int .u32 0, .bool false, .int .i64 0] 46)
          | (refine wpList_store_sat (off := 0) (n := 20) rfl 46 _ _ rfl S3 rfl rfl HAL.out (by decide) Tryz.sizeS (svals_one A) ?_; intro w4 S4; rw [zstore] at S4; have co := (st_at HAO.out.len S4).over; rw [HSO.out] at co; have cf := (st_at HAO.out.len S4).frame; rw [HF.out] at cf))
        clear co cf S S3 c1 d1 d2 d3 hw1 hw2 h1 h3
        have S5 : Sat W0 w4 (blk g (dcv a n c J qp s) 64 :: RQu qp s.q :: L) := S4.tail
        generalize w2.heap.size = tb at S4 ⊢
        clear S2 S4
        refine wp_region_drawn (N := 16) (LN := #[false, false, false, false, false, false, false, false, false, false, false, false, false, false, false, false]) (by kernel_rfl) (by kernel_rfl) (by kernel_rfl) ?_
        have S6 := S5.drew
        generalize w4.drew = w6 at S6 ⊢
        clear S5
        have c3 := (d_at S6).me
        have c4 := (d_at S6).qp
        refine wpAny_seg 0 10 6 16 #[true, true, true, true, true, true, true, true, true, true, false, false, false, false, false, false] (by kernel_rfl) (by kernel_rfl) ?_
        simp only [List.take_succ_cons, List.take_zero, List.drop_succ_cons, List.drop_zero]
        refine wpStill_step (fun K hK => ?_); go_simp; refine hK _ ?_; clear hK K
        try simp only [Act.put, List.getElem_toArray, List.getElem_cons_zero, List.getElem_cons_succ, List.setIfInBounds_toArray, List.set_cons_zero, List.set_cons_succ]
        refine wpStill_step (fun K hK => ?_); go_simp; refine hK _ ?_; clear hK K
        try simp only [Act.put, List.getElem_toArray, List.getElem_cons_zero, List.getElem_cons_succ, List.setIfInBounds_toArray, List.set_cons_zero, List.set_cons_succ]
        refine wpStill_step (fun K hK => ?_); go_simp; refine hK _ ?_; clear hK K
        try simp only [Act.put, List.getElem_toArray, List.getElem_cons_zero, List.getElem_cons_succ, List.setIfInBounds_toArray, List.set_cons_zero, List.set_cons_succ]
        refine wpStill_step (fun K hK => ?_); go_simp; refine hK _ ?_; clear hK K
        try simp only [Act.put, List.getElem_toArray, List.getElem_cons_zero, List.getElem_cons_succ, List.setIfInBounds_toArray, List.set_cons_zero, List.set_cons_succ]
        refine wpStill_step (fun K hK => ?_); go_simp; refine hK _ ?_; clear hK K
        try simp only [Act.put, List.getElem_toArray, List.getElem_cons_zero, List.getElem_cons_succ, List.setIfInBounds_toArray, List.set_cons_zero, List.set_cons_succ]
        refine wpStill_step (fun K hK => ?_); go_simp; refine hK _ ?_; clear hK K
        try simp only [Act.put, List.getElem_toArray, List.getElem_cons_zero, List.getElem_cons_succ, List.setIfInBounds_toArray, List.set_cons_zero, List.set_cons_succ]
        refine wpStill_step (fun K hK => ?_); go_simp; refine hK _ ?_; clear hK K
        try simp only [Act.put, List.getElem_toArray, List.getElem_cons_zero, List.getElem_cons_succ, List.setIfInBounds_toArray, List.set_cons_zero, List.set_cons_succ]
        refine wpStill_step (fun K hK => ?_); go_simp; refine hK _ ?_; clear hK K
        try simp only [Act.put, List.getElem_toArray, List.getElem_cons_zero, List.getElem_cons_succ, List.setIfInBounds_toArray, List.set_cons_zero, List.set_cons_succ]
        refine wpStill_step (fun K hK => ?_); go_simp; refine hK _ ?_; clear hK K
        try simp only [Act.put, List.getElem_toArray, List.getElem_cons_zero, List.getElem_cons_succ, List.setIfInBounds_toArray, List.set_cons_zero, List.set_cons_succ]
        refine wpStill_step (fun K hK => ?_); go_simp; refine hK _ ?_; clear hK K
        try simp only [Act.put, List.getElem_toArray, List.getElem_cons_zero, List.getElem_cons_succ, List.setIfInBounds_toArray, List.set_cons_zero, List.set_cons_succ]
        refine wpStill_nil ?_
        refine wpAny_one (i := 10) (LN := #[true, true, true, true, true, true, true, true, true, true, true, false, false, false, false, false]) (by kernel_rfl) rfl (by kernel_rfl) ?_
        intro K hK
        go_simp
        go_at_call 39
        refine (rget_any (S6.sel [1]) hqo (1 - J.me) fr).mono ?_
        rw [HW.out]
        rintro e w7 ⟨rfl, rfl⟩
        go_wp2_with fail
        refine hK.out _ _ ?_
        clear hK K
        try simp only [Act.put, List.getElem_toArray, List.getElem_cons_zero, List.getElem_cons_succ, List.setIfInBounds_toArray, List.set_cons_zero, List.set_cons_succ]
        refine wpAny_loc (i := 11) (v := ?_) (LN := #[true, true, true, true, true, true, true, true, true, true, true, true, false, false, false, false]) rfl (by kernel_rfl) (by kernel_rfl) (by kernel_rfl) (fun _ _ _ h => h) (by kernel_rfl) (by rfl) ?_ ?_
        rotate_left
        · intro w; first | (go_simp; done) | (go_simp; with_reducible rfl)
        try simp only [Act.put, List.getElem_toArray, List.getElem_cons_zero, List.getElem_cons_succ, List.setIfInBounds_toArray, List.set_cons_zero, List.set_cons_succ]
        refine wpAny_loc (i := 12) (v := ?_) (LN := #[true, true, true, true, true, true, true, true, true, true, true, true, true, false, false, false]) rfl (by kernel_rfl) (by kernel_rfl) (by kernel_rfl) (fun _ _ _ h => h) (by kernel_rfl) (by rfl) ?_ ?_
        rotate_left
        · intro w; first | (go_simp; done) | (go_simp; with_reducible rfl)
        try simp only [Act.put, List.getElem_toArray, List.getElem_cons_zero, List.getElem_cons_succ, List.setIfInBounds_toArray, List.set_cons_zero, List.set_cons_succ]
        refine wpAny_loc (i := 13) (v := ?_) (LN := #[true, true, true, true, true, true, true, true, true, true, true, true, true, true, false, false]) rfl (by kernel_rfl) (by kernel_rfl) (by kernel_rfl) (fun _ _ _ h => h) (by kernel_rfl) (by rfl) ?_ ?_
        rotate_left
        · intro w; first | (go_simp; done) | (go_simp; with_reducible rfl)
        try simp only [Act.put, List.getElem_toArray, List.getElem_cons_zero, List.getElem_cons_succ, List.setIfInBounds_toArray, List.set_cons_zero, List.set_cons_succ]
        refine wpAny_loc (i := 14) (v := ?_) (LN := #[true, true, true, true, true, true, true, true, true, true, true, true, true, true, true, false]) rfl (by kernel_rfl) (by kernel_rfl) (by kernel_rfl) (fun _ _ _ h => h) (by kernel_rfl) (by rfl) ?_ ?_
        rotate_left
        · intro w; first | (go_simp; done) | (go_simp; with_reducible rfl)
        try simp only [Act.put, List.getElem_toArray, List.getElem_cons_zero, List.getElem_cons_succ, List.setIfInBounds_toArray, List.set_cons_zero, List.set_cons_succ]
        refine wpAny_loc (i := 15) (v := ?_) (LN := #[true, true, true, true, true, true, true, true, true, true, true, true, true, true, true, true]) rfl (by kernel_rfl) (by kernel_rfl) (by kernel_rfl) (fun _ _ _ h => h) (by kernel_rfl) (by rfl) ?_ ?_
        rotate_left
        · intro w; first | (go_simp; done) | (go_simp; with_reducible rfl)
        try simp only [Act.put, List.getElem_toArray, List.getElem_cons_zero, List.getElem_cons_succ, List.setIfInBounds_toArray, List.set_cons_zero, List.set_cons_succ]
        refine ⟨by kernel_rfl, ?_⟩
        try simp only [Act.put, List.getElem_toArray, List.getElem_cons_zero, List.getElem_cons_succ, List.setIfInBounds_toArray, List.set_cons_zero, List.set_cons_succ]
        clear c3 c4
        go_upto_region 10 with (first
          | (go_at_call 20; refine (HNOW.out _ _ S6).mono ?_; rintro e w8 ⟨rfl, S8⟩))
        clear hff S6
        refine wp_region_drawn (N := 13) (LN := #[false, false, false, false, false, false, false, false, false, false, false, false, false]) (by kernel_rfl) (by kernel_rfl) (by kernel_rfl) ?_
        have S9 := S8.drew
        generalize w8.drew = w9 at S9 ⊢
        clear S8
        have c3 := (d_at S9).me
        have c4 := (d_at S9).qp
        refine wpAny_seg 0 11 2 13 #[true, true, true, true, true, true, true, true, true, true, true, false, false] (by kernel_rfl) (by kernel_rfl) ?_
        simp only [List.take_succ_cons, List.take_zero, List.drop_succ_cons, List.drop_zero]
        refine wpStill_step (fun K hK => ?_); go_simp; refine hK _ ?_; clear hK K
        try simp only [Act.put, List.getElem_toArray, List.getElem_cons_zero, List.getElem_cons_succ, List.setIfInBounds_toArray, List.set_cons_zero, List.set_cons_succ]
        refine wpStill_step (fun K hK => ?_); go_simp; refine hK _ ?_; clear hK K
        try simp only [Act.put, List.getElem_toArray, List.getElem_cons_zero, List.getElem_cons_succ, List.setIfInBounds_toArray, List.set_cons_zero, List.set_cons_succ]
        refine wpStill_step (fun K hK => ?_); go_simp; refine hK _ ?_; clear hK K
        try simp only [Act.put, List.getElem_toArray, List.getElem_cons_zero, List.getElem_cons_succ, List.setIfInBounds_toArray, List.set_cons_zero, List.set_cons_succ]
        refine wpStill_step (fun K hK => ?_); go_simp; refine hK _ ?_; clear hK K
        try simp only [Act.put, List.getElem_toArray, List.getElem_cons_zero, List.getElem_cons_succ, List.setIfInBounds_toArray, List.set_cons_zero, List.set_cons_succ]
        refine wpStill_step (fun K hK => ?_); go_simp; refine hK _ ?_; clear hK K
        try simp only [Act.put, List.getElem_toArray, List.getElem_cons_zero, List.getElem_cons_succ, List.setIfInBounds_toArray, List.set_cons_zero, List.set_cons_succ]
        refine wpStill_step (fun K hK => ?_); go_simp; refine hK _ ?_; clear hK K
        try simp only [Act.put, List.getElem_toArray, List.getElem_cons_zero, List.getElem_cons_succ, List.setIfInBounds_toArray, List.set_cons_zero, List.set_cons_succ]
        refine wpStill_step (fun K hK => ?_); go_simp; refine hK _ ?_; clear hK K
        try simp only [Act.put, List.getElem_toArray, List.getElem_cons_zero, List.getElem_cons_succ, List.setIfInBounds_toArray, List.set_cons_zero, List.set_cons_succ]
        refine wpStill_step (fun K hK => ?_); go_simp; refine hK _ ?_; clear hK K
        try simp only [Act.put, List.getElem_toArray, List.getElem_cons_zero, List.getElem_cons_succ, List.setIfInBounds_toArray, List.set_cons_zero, List.set_cons_succ]
        refine wpStill_step (fun K hK => ?_); go_simp; refine hK _ ?_; clear hK K
        try simp only [Act.put, List.getElem_toArray, List.getElem_cons_zero, List.getElem_cons_succ, List.setIfInBounds_toArray, List.set_cons_zero, List.set_cons_succ]
        refine wpStill_step (fun K hK => ?_); go_simp; refine hK _ ?_; clear hK K
        try simp only [Act.put, List.getElem_toArray, List.getElem_cons_zero, List.getElem_cons_succ, List.setIfInBounds_toArray, List.set_cons_zero, List.set_cons_succ]
        refine wpStill_step (fun K hK => ?_); go_simp; refine hK _ ?_; clear hK K
        try simp only [Act.put, List.getElem_toArray, List.getElem_cons_zero, List.getElem_cons_succ, List.setIfInBounds_toArray, List.set_cons_zero, List.set_cons_succ]
        refine wpStill_nil ?_
        refine wpAny_one (i := 11) (LN := #[true, true, true, true, true, true, true, true, true, true, true, true, false]) (by kernel_rfl) rfl (by kernel_rfl) ?_
        intro K hK
        go_simp
        go_at_call 38
        refine (rput_any (S9.sel [1]) hqo (1 - J.me) fr x).mono ?_
        unfold RPutted
        rw [HP.out]
        rintro e w10 ⟨rfl, S10⟩
        go_wp2_with fail
        refine hK.out _ _ ?_
        clear hK K
        try simp only [Act.put, List.getElem_toArray, List.getElem_cons_zero, List.getElem_cons_succ, List.setIfInBounds_toArray, List.set_cons_zero, List.set_cons_succ]
        refine wpAny_loc (i := 12) (v := ?_) (LN := #[true, true, true, true, true, true, true, true, true, true, true, true, true]) rfl (by kernel_rfl) (by kernel_rfl) (by kernel_rfl) (fun _ _ _ h => h) (by kernel_rfl) (by rfl) ?_ ?_
        rotate_left
        · intro w; first | (go_simp; done) | (go_simp; with_reducible rfl)
        try simp only [Act.put, List.getElem_toArray, List.getElem_cons_zero, List.getElem_cons_succ, List.setIfInBounds_toArray, List.set_cons_zero, List.set_cons_succ]
        refine ⟨by kernel_rfl, ?_⟩
        try simp only [Act.put, List.getElem_toArray, List.getElem_cons_zero, List.getElem_cons_succ, List.setIfInBounds_toArray, List.set_cons_zero, List.set_cons_succ]
        clear c3 c4 S9
        have S11 : Sat W0 w10 (blk g (dcv a n c J qp s) 64 :: RQu qp P.2 :: L) := S10.swap
        clear S10
        by_cases hp0 : P.1 = 0
        · have hp1 : (P.1 != 0) = false := by rw [hp0]; rfl
          have hR : J.rem s fr x = (0, J.told s fr x) := by rw [HE.out, HP.out, if_neg (by simpa using hp0)]
          have hT : J.told s fr x = if J.anew s fr x then ⟨P.2, s.d, s.st + ((stA J.code J.cap J.fuel J.seed P.2 s.d).frame - fr), s.wr + 1⟩ else { s with q := P.2 } := by unfold SK.told; rw [HP.out]
          by_cases han : fr < NF ∧ W.1 ≠ x
          · have d4 : decide (fr < NF) = true := decide_eq_true han.1
            have d5 : (W.1 != x) = true := by simpa using han.2
            rw [hT, if_pos (show J.anew s fr x from ⟨by rw [HNF.out]; exact han.1, by rw [HW.out]; exact han.2⟩)] at hR
            obtain ⟨f, rfl⟩ : ∃ f : Nat, fr = f := ⟨fr.toNat, by have := H13.out.1; omega⟩
            have hfq : f < s.q.n := by have := HG.out.qn; have := H13.out.1; omega
            have hkn : isKn (s.q.row (1 - J.me)) f = false := by
              cases e : isKn (s.q.row (1 - J.me)) f with
              | false => rfl
              | true =>
                have h2 := put_has HG.out.seat.other hfq e x
                rw [HP.out] at h2
                rw [h2] at hp0
                exact absurd hp0 (hasErr_zero _ _)
            have hq2 : P.2 = s.q.tell (1 - J.me) f x := by
              have h2 := put_tell HG.out.seat.other hfq hkn x
              rw [HP.out] at h2
              rw [h2]
            have HG2 : J.Good { s with q := P.2, wr := s.wr + 1 } (cc + 1) := by
              rw [hq2]
              have g := HG.out
              refine ⟨g.hk, g.hs, tell_ok g.qo g.seat.other f x, tell_rb g.qr g.seat.other hx, by rw [tell_n]; exact g.qn, g.seat, fun k => ?_, by rw [tell_n]; exact g.dn, ?_, ?_⟩
              · rw [tell_other g.seat.other g.seat (by rcases g.seat with e | e <;> rw [e] <;> decide)]
                exact g.own k
              · have := g.st; simp only; omega
              · have := g.wr; simp only; omega
            have HNOW2 := Lib.hid (fun w M (S : Sat W0 w (blk g (dcv a n c J qp { s with q := P.2, wr := s.wr + 1 }) 64 :: RQu qp P.2 :: M)) => dNow_any S HG2 hRD hn)
            have hff := fldF HG2.now.len
            have hnf2 := HG2.nfr
            obtain ⟨N2, hN2⟩ : ∃ N2, (stA J.code J.cap J.fuel J.seed P.2 s.d).frame = N2 := ⟨_, rfl⟩
            have hN3 : (J.now { s with q := P.2, wr := s.wr + 1 }).frame = N2 := hN2
            rw [hN3] at hff hnf2
            rw [hN2] at hR
            have hwr1 : IntKind.i64.wrap (s.wr + 1) = s.wr + 1 := by rw [IntKind.wrap_i64]; omega
            have hws1 : IntKind.i64.wrap (s.st + N2) = s.st + N2 := by rw [IntKind.wrap_i64]; omega
            have hws2 : IntKind.i64.wrap (s.st + N2 - (f : Int)) = s.st + N2 - (f : Int) := by rw [IntKind.wrap_i64]; omega
            have hss : s.st + (N2 - (f : Int)) = s.st + N2 - (f : Int) := by omega
            rw [hss] at hR
            have HRES := Lib.hid hR
            have c8 := (d_at S11).wr
            have z8 := (d_at S11).fz 8
            clear hR hT hq2 hkn HG2 hN2 hN3 hss han hp0
            go_upto_region 15 with fail
            have S12 := S11.setCell (k := 8) (v := .int .i64 (s.wr + 1)) 0 rfl
            generalize World.setCell w10 _ _ = w12 at S12 ⊢
            clear c8 z8 S11
            have S13 : Sat W0 w12 (blk g (dcv a n c J qp { s with q := P.2, wr := s.wr + 1 }) 64 :: RQu qp P.2 :: L) := S12
            clear S12
            refine wp_region_drawn (N := 14) (LN := #[false, false, false, false, false, false, false, false, false, false, false, false, false, false]) (by kernel_rfl) (by kernel_rfl) (by kernel_rfl) ?_
            have S14 := S13.drew
            generalize w12.drew = w14 at S14 ⊢
            clear S13
            refine wpAny_until 13 (fun w' => w'.cell? ⟨g, 7, none⟩ = some (.int .i64 s.st)) ((d_at S14).st) (fun hHeld => ?_)
            refine wpAnyU_tk (by kernel_rfl) (i := 0) (v := ?_) (LN := #[true, false, false, false, false, false, false, false, false, false, false, false, false, false]) rfl (by kernel_rfl) (by kernel_rfl) (by kernel_rfl) (fun _ _ _ h => h) (by kernel_rfl) (by rfl) (by assumption) ?_ ?_
            rotate_left
            · intro w hSw; (try dsimp only at hSw); first | (go_simp; done) | (go_simp; with_reducible rfl)
            try simp only [Act.put, List.getElem_toArray, List.getElem_cons_zero, List.getElem_cons_succ, List.setIfInBounds_toArray, List.set_cons_zero, List.set_cons_succ]
            refine wpAnyU_tk (by kernel_rfl) (i := 1) (v := ?_) (LN := #[true, true, false, false, false, false, false, false, false, false, false, false, false, false]) rfl (by kernel_rfl) (by kernel_rfl) (by kernel_rfl) (fun _ _ _ h => h) (by kernel_rfl) (by rfl) (by assumption) ?_ ?_
            rotate_left
            · intro w hSw; (try dsimp only at hSw); first | (go_simp; done) | (go_simp; with_reducible rfl)
            try simp only [Act.put, List.getElem_toArray, List.getElem_cons_zero, List.getElem_cons_succ, List.setIfInBounds_toArray, List.set_cons_zero, List.set_cons_succ]
            refine wpAnyU_tk (by kernel_rfl) (i := 2) (v := ?_) (LN := #[true, true, true, false, false, false, false, false, false, false, false, false, false, false]) rfl (by kernel_rfl) (by kernel_rfl) (by kernel_rfl) (fun _ _ _ h => h) (by kernel_rfl) (by rfl) (by assumption) ?_ ?_
            rotate_left
            · intro w hSw; (try dsimp only at hSw); first | (go_simp; done) | (go_simp; with_reducible rfl)
            try simp only [Act.put, List.getElem_toArray, List.getElem_cons_zero, List.getElem_cons_succ, List.setIfInBounds_toArray, List.set_cons_zero, List.set_cons_succ]
            refine wpAnyU_tk (by kernel_rfl) (i := 3) (v := ?_) (LN := #[true, true, true, true, false, false, false, false, false, false, false, false, false, false]) rfl (by kernel_rfl) (by kernel_rfl) (by kernel_rfl) (fun _ _ _ h => h) (by kernel_rfl) (by rfl) (by assumption) ?_ ?_
            rotate_left
            · intro w hSw; (try dsimp only at hSw); first | (go_simp; done) | (go_simp; with_reducible rfl)
            try simp only [Act.put, List.getElem_toArray, List.getElem_cons_zero, List.getElem_cons_succ, List.setIfInBounds_toArray, List.set_cons_zero, List.set_cons_succ]
            refine wpAnyU_tk (by kernel_rfl) (i := 4) (v := ?_) (LN := #[true, true, true, true, true, false, false, false, false, false, false, false, false, false]) rfl (by kernel_rfl) (by kernel_rfl) (by kernel_rfl) (fun _ _ _ h => h) (by kernel_rfl) (by rfl) (by assumption) ?_ ?_
            rotate_left
            · intro w hSw; (try dsimp only at hSw); first | (go_simp; done) | (go_simp; with_reducible rfl)
            try simp only [Act.put, List.getElem_toArray, List.getElem_cons_zero, List.getElem_cons_succ, List.setIfInBounds_toArray, List.set_cons_zero, List.set_cons_succ]
            refine wpAnyU_tk (by kernel_rfl) (i := 5) (v := ?_) (LN := #[true, true, true, true, true, true, false, false, false, false, false, false, false, false]) rfl (by kernel_rfl) (by kernel_rfl) (by kernel_rfl) (fun _ _ _ h => h) (by kernel_rfl) (by rfl) (by assumption) ?_ ?_
            rotate_left
            · intro w hSw; (try dsimp only at hSw); first | (go_simp; done) | (go_simp; with_reducible rfl)
            try simp only [Act.put, List.getElem_toArray, List.getElem_cons_zero, List.getElem_cons_succ, List.setIfInBounds_toArray, List.set_cons_zero, List.set_cons_succ]
            refine wpAnyU_tk (by kernel_rfl) (i := 9) (v := ?_) (LN := #[true, true, true, true, true, true, false, false, false, true, false, false, false, false]) rfl (by kernel_rfl) (by kernel_rfl) (by kernel_rfl) (fun _ _ _ h => h) (by kernel_rfl) (by rfl) (by assumption) ?_ ?_
            rotate_left
            · intro w hSw; (try dsimp only at hSw); first | (go_simp; done) | (go_simp; with_reducible rfl)
            try simp only [Act.put, List.getElem_toArray, List.getElem_cons_zero, List.getElem_cons_succ, List.setIfInBounds_toArray, List.set_cons_zero, List.set_cons_succ]
            refine wpAnyU_one (by decide) (i := 6) (LN := #[true, true, true, true, true, true, true, false, false, true, false, false, false, false]) (by kernel_rfl) rfl (by kernel_rfl) ?_
            intro K hK
            go_simp
            go_at_call 20
            refine (HNOW2.out _ _ S14).mono ?_
            rintro e w15 ⟨rfl, S15⟩
            go_wp2_with fail
            refine hK.out _ _ ((d_at S15).st) ?_
            clear hK K hHeld
            intro hHeld
            try simp only [Act.put, List.getElem_toArray, List.getElem_cons_zero, List.getElem_cons_succ, List.setIfInBounds_toArray, List.set_cons_zero, List.set_cons_succ]
            refine wpAnyU_tk (by kernel_rfl) (i := 7) (v := ?_) (LN := #[true, true, true, true, true, true, true, true, false, true, false, false, false, false]) rfl (by kernel_rfl) (by kernel_rfl) (by kernel_rfl) (fun _ _ _ h => h) (by kernel_rfl) (by rfl) (by assumption) ?_ ?_
            rotate_left
            · intro w hSw; (try dsimp only at hSw); first | (go_simp; done) | (go_simp; with_reducible rfl)
            try simp only [Act.put, List.getElem_toArray, List.getElem_cons_zero, List.getElem_cons_succ, List.setIfInBounds_toArray, List.set_cons_zero, List.set_cons_succ]
            refine wpAnyU_tk (by kernel_rfl) (i := 8) (v := ?_) (LN := #[true, true, true, true, true, true, true, true, true, true, false, false, false, false]) rfl (by kernel_rfl) (by kernel_rfl) (by kernel_rfl) (fun _ _ _ h => h) (by kernel_rfl) (by rfl) (by assumption) ?_ ?_
            rotate_left
            · intro w hSw; (try dsimp only at hSw); first | (go_simp; done) | (go_simp; with_reducible rfl)
            try simp only [Act.put, List.getElem_toArray, List.getElem_cons_zero, List.getElem_cons_succ, List.setIfInBounds_toArray, List.set_cons_zero, List.set_cons_succ]
            refine wpAnyU_tk (by kernel_rfl) (i := 10) (v := ?_) (LN := #[true, true, true, true, true, true, true, true, true, true, true, false, false, false]) rfl (by kernel_rfl) (by kernel_rfl) (by kernel_rfl) (fun _ _ _ h => h) (by kernel_rfl) (by rfl) (by assumption) ?_ ?_
            rotate_left
            · intro w hSw; (try dsimp only at hSw); first | (go_simp; done) | (go_simp; with_reducible rfl)
            try simp only [Act.put, List.getElem_toArray, List.getElem_cons_zero, List.getElem_cons_succ, List.setIfInBounds_toArray, List.set_cons_zero, List.set_cons_succ]
            refine wpAnyU_tk (by kernel_rfl) (i := 11) (v := ?_) (LN := #[true, true, true, true, true, true, true, true, true, true, true, true, false, false]) rfl (by kernel_rfl) (by kernel_rfl) (by kernel_rfl) (fun _ _ _ h => h) (by kernel_rfl) (by rfl) (by assumption) ?_ ?_
            rotate_left
            · intro w hSw; (try dsimp only at hSw); first | (go_simp; done) | (go_simp; with_reducible rfl)
            try simp only [Act.put, List.getElem_toArray, List.getElem_cons_zero, List.getElem_cons_succ, List.setIfInBounds_toArray, List.set_cons_zero, List.set_cons_succ]
            refine wpAnyU_tk (by kernel_rfl) (i := 12) (v := ?_) (LN := #[true, true, true, true, true, true, true, true, true, true, true, true, true, false]) rfl (by kernel_rfl) (by kernel_rfl) (by kernel_rfl) (fun _ _ _ h => h) (by kernel_rfl) (by rfl) (by assumption) ?_ ?_
            rotate_left
            · intro w hSw; (try dsimp only at hSw); first | (go_simp; done) | (go_simp; with_reducible rfl)
            try simp only [Act.put, List.getElem_toArray, List.getElem_cons_zero, List.getElem_cons_succ, List.setIfInBounds_toArray, List.set_cons_zero, List.set_cons_succ]
            refine wpAnyU_fin (i := 13) (LN := #[true, true, true, true, true, true, true, true, true, true, true, true, true, true]) (by kernel_rfl) rfl (by kernel_rfl) ?_
            intro K hK
            have c7 := (d_at S15).st
            have z7 := (d_at S15).fz 7
            have S16 := S15.setCell (k := 7) (v := .int .i64 (s.st + N2 - (f : Int))) 0 rfl
            go_simp
            refine hK.out _ _ ?_
            clear hK K hHeld
            try simp only [Act.put, List.getElem_toArray, List.getElem_cons_zero, List.getElem_cons_succ, List.setIfInBounds_toArray, List.set_cons_zero, List.set_cons_succ]
            refine ⟨by kernel_rfl, ?_⟩
            try simp only [Act.put, List.getElem_toArray, List.getElem_cons_zero, List.getElem_cons_succ, List.setIfInBounds_toArray, List.set_cons_zero, List.set_cons_succ]
            go_wp2_with fail
            go_ret
            rw [HRES.out]
            exact ⟨rfl, S16⟩
          · have hP2 : J.told s fr x = { s with q := P.2 } := by rw [hT, if_neg (fun hh => han ⟨by have := hh.1; rw [HNF.out] at this; exact this, by have := hh.2; rw [HW.out] at this; exact this⟩)]
            rw [hP2] at hR
            have HRES := Lib.hid hR
            clear hR hT hP2
            by_cases hlt : fr < NF
            · have d4 : decide (fr < NF) = true := decide_eq_true hlt
              have d5 : (W.1 != x) = false := by
                simp only [bne_eq_false_iff_eq]
                by_cases e : W.1 = x
                · exact e
                · exact absurd ⟨hlt, e⟩ han
              clear han
              go_wp2_with fail
              go_ret
              rw [HRES.out]
              exact ⟨rfl, S11⟩
            · have d4 : decide (fr < NF) = false := decide_eq_false hlt
              clear han
              go_wp2_with fail
              go_ret
              rw [HRES.out]
              exact ⟨rfl, S11⟩
        · have hp1 : (P.1 != 0) = true := by simpa using hp0
          have hR : J.rem s fr x = (P.1, s) := by rw [HE.out, HP.out, if_pos hp0]
          have HRES := Lib.hid hR
          have hq2 : P.2 = s.q := by
            obtain ⟨f, rfl⟩ : ∃ f : Nat, fr = f := ⟨fr.toNat, by have := H13.out.1; omega⟩
            have hfq : f < s.q.n := by have := HG.out.qn; have := H13.out.1; omega
            cases e : isKn (s.q.row (1 - J.me)) f with
            | true =>
              have h2 := put_has HG.out.seat.other hfq e x
              rw [HP.out] at h2
              rw [h2]
            | false =>
              have h2 := put_tell HG.out.seat.other hfq e x
              rw [HP.out] at h2
              rw [h2] at hp0
              exact absurd rfl hp0
          rw [hq2] at S11
          clear hR hq2
          go_wp2_with fail
          go_ret
          rw [HRES.out]
          exact ⟨rfl, S11⟩
end Go.Proofs.YtjdeeloemhjbhaaGreat
end

section
namespace Go.Proofs.YtjdeeloemhjbhaaGreat
open Go.RowKit Go.Sep Go.Oct Go.Vm Go.Inp
set_option linter.unusedSimpArgs false

theorem built64 (a : Option Addr) (n c : Nat) (cap fuel seed me : Int) (qp : Nat) : Tryz.prog.built 64 [(0, .agg #[.slice a n c, .int .i64 cap, .int .i64 fuel]), (1, .int .u32 seed), (2, .int .i64 me), (3, .pointer (some ⟨qp, 0, none⟩))] = some #[.slice a n c, .int .i64 cap, .int .i64 fuel, .int .u32 seed, .int .i64 me, .pointer (some ⟨qp, 0, none⟩), .int .i64 0, .int .i64 0, .int .i64 0] := by kernel_rfl
set_option maxRecDepth 100000 in
set_option maxHeartbeats 3200000 in
theorem dNew_bad {W0 w : World} {L : List Asn} (S : Sat W0 w L) {a : Option Addr} {n c : Nat} {code : List (Int × Int)} (hRD : ∀ (M : List Asn) (w' : World), Sat W0 w' M → Rd w' a (insv code)) (hn : code.length = n) (hnm : n ≤ maxLen) (cap fuel seed me : Int) (hk : checkP code cap fuel ≠ 0) :
    Calls Tryz.prog 15 #[.agg #[.slice a n c, .int .i64 cap, .int .i64 fuel], .int .u32 seed, .int .i64 me] w fun e w' => e = .returned (.tuple #[.pointer none, .int .i64 (checkP code cap fuel)]) ∧ Sat W0 w' L := by
  have S1 := S.alloc [.slice a n c, .int .i64 cap, .int .i64 fuel] 24
  obtain ⟨e0, he0⟩ : ∃ e0, checkP code cap fuel = e0 := ⟨_, rfl⟩
  have HC := Lib.hid he0
  rw [he0] at hk ⊢
  have hne : (e0 != 0) = true := by simpa using hk
  clear he0 S
  go_enter Tryz.func15, Tryz.ntmps15
  go_wp2_with (first
    | (refine wpList_load_part rfl 24 _ rfl (n := 3) rfl (Sat.whole S1 3) rfl Tryz.underlying24 rfl Tryz.sizeG ?_)
    | (go_at_call 8; refine (r10check_any S1 (fun w' h => hRD _ _ h) hn hnm cap fuel).mono ?_; rintro e w2 ⟨rfl, S2⟩; rw [HC.out]))
  go_ret2
  exact ⟨rfl, S2.tail⟩
set_option maxRecDepth 100000 in
set_option maxHeartbeats 3200000 in
theorem dNew_seat {W0 w : World} {L : List Asn} (S : Sat W0 w L) {a : Option Addr} {n c : Nat} {code : List (Int × Int)} (hRD : ∀ (M : List Asn) (w' : World), Sat W0 w' M → Rd w' a (insv code)) (hn : code.length = n) (hnm : n ≤ maxLen) (cap fuel seed me : Int) (hk : checkP code cap fuel = 0) (hm : ¬ Seat me) :
    Calls Tryz.prog 15 #[.agg #[.slice a n c, .int .i64 cap, .int .i64 fuel], .int .u32 seed, .int .i64 me] w fun e w' => e = .returned (.tuple #[.pointer none, .int .i64 1]) ∧ Sat W0 w' L := by
  have S1 := S.alloc [.slice a n c, .int .i64 cap, .int .i64 fuel] 24
  have HC := Lib.hid hk
  by_cases h0 : me < 0
  · have d0 : decide (me < 0) = true := decide_eq_true h0
    clear hk S hm h0
    go_enter Tryz.func15, Tryz.ntmps15
    go_wp2_with (first
      | (refine wpList_load_part rfl 24 _ rfl (n := 3) rfl (Sat.whole S1 3) rfl Tryz.underlying24 rfl Tryz.sizeG ?_)
      | (go_at_call 8; refine (r10check_any S1 (fun w' h => hRD _ _ h) hn hnm cap fuel).mono ?_; rintro e w2 ⟨rfl, S2⟩; rw [HC.out]))
    go_ret2
    exact ⟨rfl, S2.tail⟩
  · have d0 : decide (me < 0) = false := decide_eq_false h0
    have d1 : decide (1 < me) = true := decide_eq_true (by
      rcases Int.lt_or_le 1 me with h | h
      · exact h
      · exact absurd (by unfold Seat; omega) hm)
    clear hk S hm h0
    go_enter Tryz.func15, Tryz.ntmps15
    go_wp2_with (first
      | (refine wpList_load_part rfl 24 _ rfl (n := 3) rfl (Sat.whole S1 3) rfl Tryz.underlying24 rfl Tryz.sizeG ?_)
      | (go_at_call 8; refine (r10check_any S1 (fun w' h => hRD _ _ h) hn hnm cap fuel).mono ?_; rintro e w2 ⟨rfl, S2⟩; rw [HC.out]))
    go_ret2
    exact ⟨rfl, S2.tail⟩
set_option maxRecDepth 100000 in
set_option maxHeartbeats 3200000 in
theorem dNew_ok {W0 w : World} {L : List Asn} (S : Sat W0 w L) {a : Option Addr} {n c : Nat} {code : List (Int × Int)} (hRD : ∀ (M : List Asn) (w' : World), Sat W0 w' M → Rd w' a (insv code)) (hn : code.length = n) (cap fuel seed me : Int) (hk : checkP code cap fuel = 0) (hm : Seat me) :
    Calls Tryz.prog 15 #[.agg #[.slice a n c, .int .i64 cap, .int .i64 fuel], .int .u32 seed, .int .i64 me] w fun e w' => ∃ g qp, e = .returned (.tuple #[.pointer (some ⟨g, 0, none⟩), .int .i64 0]) ∧ Sat W0 w' (blk g (dcv a n c ⟨code, cap, fuel, seed, me⟩ qp (SK.new ⟨code, cap, fuel, seed, me⟩)) 64 :: RQu qp (SK.new ⟨code, cap, fuel, seed, me⟩).q :: L) := by
  obtain ⟨hcl, _, hc1, hc2, _, _⟩ := check_ok hk
  have hnm : n ≤ maxLen := by unfold maxLen; omega
  have S1 := S.alloc [.slice a n c, .int .i64 cap, .int .i64 fuel] 24
  have HC := Lib.hid hk
  obtain ⟨cp, rfl⟩ : ∃ cp : Nat, cap = cp := ⟨cap.toNat, by omega⟩
  have d0 : decide (me < 0) = false := decide_eq_false (by rcases hm with e | e <;> rw [e] <;> omega)
  have d1 : decide (1 < me) = false := decide_eq_false (by rcases hm with e | e <;> rw [e] <;> omega)
  clear hk S hm
  go_enter Tryz.func15, Tryz.ntmps15
  go_upto_region 6 with (first
    | (refine wpList_load_part rfl 24 _ rfl (n := 3) rfl (Sat.whole S1 3) rfl Tryz.underlying24 rfl Tryz.sizeG ?_)
    | (go_at_call 8; refine (r10check_any S1 (fun w' h => hRD _ _ h) hn hnm cp fuel).mono ?_; rintro e w2 ⟨rfl, S2⟩; rw [HC.out]))
  generalize w.heap.size = gp at S2 ⊢
  clear S1
  have k1 : w2.cell? ⟨gp, 1, none⟩ = some (.int .i64 cp) := S2.cell 0 rfl 1
  go_upto_region 7 with (first
    | (go_at_call 37; refine (rnew_any S2 cp (by omega) (by omega)).mono ?_; rintro e w3 ⟨qp, rfl, S3⟩))
  clear k1 S2
  have HB := Lib.hid (built64 a n c cp fuel seed me qp)
  go_wp2_with (first
    | (refine wpList_load_part rfl 24 _ rfl (n := 3) rfl (Sat.whole (S3.sel [1]) 3) rfl Tryz.underlying24 rfl Tryz.sizeG ?_)
    | (refine wpList_build_to rfl 64 _ rfl (Eq.trans (congrArg (Tryz.prog.built 64) (show _ = [(0, Value.agg #[.slice a n c, .int .i64 cp, .int .i64 fuel]), (1, .int .u32 seed), (2, Value.int .i64 me), (3, .pointer (some ⟨qp, 0, none⟩))] by kernel_rfl)) HB.out) ?_; have S4 := S3.alloc [.slice a n c, .int .i64 cp, .int .i64 fuel, .int .u32 seed, .int .i64 me, .pointer (some ⟨qp, 0, none⟩), .int .i64 0, .int .i64 0, .int .i64 0] 64))
  go_ret2
  refine ⟨_, qp, rfl, ?_⟩
  have e : (SK.new ⟨code, cp, fuel, seed, me⟩).q = PQ.new cp := by unfold SK.new; rw [Int.toNat_natCast]
  rw [e]
  exact (S4.sel [2]).tail
end Go.Proofs.YtjdeeloemhjbhaaGreat
end

section
namespace Go.Proofs.YtjdeeloemhjbhaaGreat
open Go.RowKit Go.Sep Go.Vm Go.Inp
set_option linter.unusedSimpArgs false

def slowP (n : Nat) (fuel : Int) : Bool := decide (120 < n) || (decide (300 < fuel) && decide (fuel ≤ 2000))
set_option maxRecDepth 100000 in
theorem slow_any {W0 w : World} {L : List Asn} (S : Sat W0 w L) (a : Option Addr) (n c : Nat) (cap fuel : Int) :
    Calls Tryz.prog 7 #[.agg #[.slice a n c, .int .i64 cap, .int .i64 fuel]] w fun e w' => e = .returned (.bool (slowP n fuel)) ∧ Sat W0 w' L := by
  have S1 := S.alloc [.slice a n c, .int .i64 cap, .int .i64 fuel] 24
  have c0 := S1.cell 0 rfl 0
  have c2 := S1.cell 0 rfl 2
  simp only [List.getElem?_cons_zero, List.getElem?_cons_succ] at c0 c2
  by_cases h1 : 120 < n
  · have e : slowP n fuel = true := by unfold slowP; rw [decide_eq_true h1]; rfl
    have d1 : decide ((120 : Int) < (n : Int)) = true := decide_eq_true (by omega)
    have d1' : decide (120 < n) = true := decide_eq_true h1
    rw [e]
    clear e h1
    go_enter Tryz.func7, Tryz.ntmps7
    go_wp2_with fail
    go_ret
    exact ⟨rfl, S1.tail⟩
  · have d1 : decide ((120 : Int) < (n : Int)) = false := decide_eq_false (by omega)
    have d1' : decide (120 < n) = false := decide_eq_false h1
    by_cases h2 : 300 < fuel
    · have d2 : decide (300 < fuel) = true := decide_eq_true h2
      by_cases h3 : fuel ≤ 2000
      · have d3 : decide (fuel ≤ 2000) = true := decide_eq_true h3
        have e : slowP n fuel = true := by unfold slowP; rw [d1', d2, d3]; rfl
        rw [e]
        clear e h1 h2 h3
        go_enter Tryz.func7, Tryz.ntmps7
        go_wp2_with fail
        go_ret
        exact ⟨rfl, S1.tail⟩
      · have d3 : decide (fuel ≤ 2000) = false := decide_eq_false h3
        have e : slowP n fuel = false := by unfold slowP; rw [d1', d2, d3]; rfl
        rw [e]
        clear e h1 h2 h3
        go_enter Tryz.func7, Tryz.ntmps7
        go_wp2_with fail
        go_ret
        exact ⟨rfl, S1.tail⟩
    · have d2 : decide (300 < fuel) = false := decide_eq_false h2
      have e : slowP n fuel = false := by unfold slowP; rw [d1', d2]; rfl
      rw [e]
      clear e h1 h2
      go_enter Tryz.func7, Tryz.ntmps7
      go_wp2_with fail
      go_ret
      exact ⟨rfl, S1.tail⟩

abbrev RStepT := Int × Int × Int
abbrev RStepK : Kd RStepT := Kd.pair (Kd.int .i64) (Kd.pair (Kd.int .i64) (Kd.int .u16))
def rstepC (r : RStepT) : List Value := [.int .i64 r.1, .int .i64 r.2.1, .int .u16 r.2.2]
theorem rstep_flat {w : World} : ∀ {els : List (List Value)} {xs : List RStepT}, Each (RStepK.R w) els xs → els.flatten = (xs.map rstepC).flatten ∧ ∀ r ∈ xs, 0 ≤ r.2.2 ∧ r.2.2 < 65536
  | [], [], _ => ⟨rfl, fun r h => by simp at h⟩
  | [], x :: r, h => by have := h.1; simp at this
  | c :: s, [], h => by have := h.1; simp at this
  | c :: s, x :: r, h => by
    have h0 := h.2 0 c x rfl rfl
    obtain ⟨_, _, rfl, ⟨rfl, _⟩, _, _, rfl, ⟨rfl, _⟩, rfl, w2⟩ := h0
    obtain ⟨h1, h2⟩ := rstep_flat (els := s) (xs := r) ⟨by have := h.1; simpa using this, fun i c x hc hx => h.2 (i + 1) c x hc hx⟩
    refine ⟨by rw [List.flatten_cons, h1]; rfl, fun y hy => ?_⟩
    rcases List.mem_cons.1 hy with rfl | hy
    · have : 0 ≤ y.2.2 ∧ y.2.2 ≤ 65535 := by simpa [Lit.wf, IntKind.min, IntKind.max, IntKind.signed, IntKind.bits] using w2
      exact ⟨this.1, by omega⟩
    · exact h2 y hy
theorem rstep_at : ∀ {xs : List RStepT} {i : Nat} {r : RStepT} {j : Nat}, xs[i]? = some r → j < 3 → ((xs.map rstepC).flatten)[i * 3 + j]? = (rstepC r)[j]?
  | [], i, r, j, h, _ => by simp at h
  | x :: xs, 0, r, j, h, hj => by
    cases h
    rw [List.map_cons, List.flatten_cons, List.getElem?_append_left (by show _ < 3; omega), Nat.zero_mul, Nat.zero_add]
  | x :: xs, i + 1, r, j, h, hj => by
    have ih := rstep_at (xs := xs) (i := i) (r := r) (by simpa using h) hj
    rw [List.map_cons, List.flatten_cons, List.getElem?_append_right (by show 3 ≤ _; omega)]
    rw [show (i + 1) * 3 + j - (rstepC x).length = i * 3 + j by show _ - 3 = _; omega]
    exact ih
structure RSRows (w : World) (s : Sl RStepT) : Prop where
  reach : s.len ≤ 140737488351232
  len : s.xs.length = s.len
  row : ∀ i r, s.xs[i]? = some r → ∃ b off, s.ao = some ⟨b, off, none⟩ ∧ (∀ j, j < 3 → w.cell? ⟨b, off + i * 3 + j, none⟩ = (rstepC r)[j]?) ∧ 0 ≤ r.2.2 ∧ r.2.2 < 65536
theorem rsteps_rd {w : World} {s : Sl RStepT} {c : List Value} (h : (Kd.sl RStepK).R w c s) : RSRows w s := by
  obtain ⟨_, h2, h3, h4, h5, h6, h7, h8⟩ := h
  obtain ⟨g1, g2⟩ := rstep_flat h4
  refine ⟨h8, h2, fun i r hi => ?_⟩
  rw [g1] at h3
  obtain ⟨b, off, ha, -⟩ := h3 (i * 3 + 0) _ (rstep_at hi (by omega))
  refine ⟨b, off, ha, fun j hj => ?_, g2 r (List.mem_of_getElem? hi)⟩
  have hs : ∃ u, (rstepC r)[j]? = some u := ⟨_, List.getElem?_eq_getElem (by show j < 3; exact hj)⟩
  obtain ⟨u, hu⟩ := hs
  rw [hu]
  obtain ⟨b', off', ha', hc⟩ := h3 (i * 3 + j) u (by rw [rstep_at hi hj, hu])
  rw [ha] at ha'
  cases ha'
  rw [Nat.add_assoc]
  exact hc
theorem RSRows.cells {w : World} {s : Sl RStepT} (h : RSRows w s) {k : Nat} {x : RStepT} (hx : s.xs[k]? = some x) : ∃ b off, s.ao = some ⟨b, off, none⟩ ∧ (0 ≤ x.2.2 ∧ x.2.2 < 65536) ∧ ∀ w', Below w.heap.size w w' → ∀ j, j < 3 → w'.cell? ⟨b, off + k * 3 + j, none⟩ = (rstepC x)[j]? := by
  obtain ⟨b, off, ha, hc, hr⟩ := h.row k x hx
  refine ⟨b, off, ha, hr, fun w' hb j hj => ?_⟩
  rw [← hc j hj]
  have h0 := hc 0 (by omega)
  exact World.cell?_of_block (hb.block b (World.block_lt_of_cell? w _ h0))
end Go.Proofs.YtjdeeloemhjbhaaGreat
end
