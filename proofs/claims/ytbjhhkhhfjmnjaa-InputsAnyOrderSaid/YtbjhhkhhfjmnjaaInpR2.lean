/-
  gauntletref12: the document's Queue: Put, and the Queue whole.
-/
import Derived.Test.YtbjhhkhhfjmnjaaInpR1
import Derived.Test.YtbjhhkhhfjmnjaaInp4
namespace Go.Proofs.Ytbjhhkhhfjmnjaa
open Go.RowKit Go.Sep Go.Inp

def rrL (p gb hb : Nat) (cs : List Value) (r : PRow) (L : List Asn) : List Asn :=
  blk p cs 62 :: blk gb (uv r.ins) 29 :: blk hb (kv r.kn) 4 :: L
structure RC (cs : List Value) (n o gb hb : Nat) : Prop where
  cN : cs[0]? = some (.int .i64 n)
  cI : cs[1 + o]? = some (.slice (some ⟨gb, 0, none⟩) n n)
  cS : cs[3 + o]? = some (.slice (some ⟨hb, 0, none⟩) n n)

theorem rr_of {W0 w : World} {L : List Asn} {p n o gb hb : Nat} {cs : List Value} {r : PRow} (S : Sat W0 w (rrL p gb hb cs r L)) (C : RC cs n o gb hb) (hok : r.ok n) : RR w p n o gb hb r :=
  ⟨by rw [Sat.cell S 0 rfl, C.cN], by rw [Sat.cell S 0 rfl, C.cI], by rw [Sat.cell S 0 rfl, C.cS],
   fun k hk => by rw [Sat.cell S 1 rfl]; unfold inAt; simp [uv, List.getElem?_eq_getElem (show k < r.ins.length by rw [hok.1]; exact hk)],
   fun k hk => by rw [Sat.cell S 2 rfl]; unfold isKn; simp [kv, List.getElem?_eq_getElem (show k < r.kn.length by rw [hok.2]; exact hk)]⟩

set_option maxRecDepth 100000 in
theorem rput_out {w : World} {p n : Nat} {j fr : Int} (x : Int) (cN : w.cell? ⟨p, 0, none⟩ = some (.int .i64 n)) (h : j < 0 ∨ 1 < j ∨ fr < 0 ∨ (n : Int) ≤ fr) :
    Calls Try.prog 12 #[.pointer (some ⟨p, 0, none⟩), .int .i64 j, .int .i64 fr, .int .u16 x] w fun e w' => e = .returned (.int .i64 1) ∧ w = w' := by
  go_enter Try.func12, Try.ntmps12
  go_wp2_with (go_at_call 22; refine (none_out cN h).mono ?_; rintro e w1 ⟨rfl, rfl⟩)
  go_ret
  exact ⟨rfl, rfl⟩

set_option maxRecDepth 100000 in
theorem rput_has {w : World} {p n o gb hb : Nat} {r : PRow} (R : RR w p n o gb hb r) (ho : o < 2) (hn : n ≤ 600) (q : Nat) (hq : q < n) (hk : isKn r q = true) (x : Int) :
    Calls Try.prog 12 #[.pointer (some ⟨p, 0, none⟩), .int .i64 o, .int .i64 q, .int .u16 x] w fun e w' => e = .returned (.int .i64 (hasErr (inAt r q) x)) ∧ w = w' := by
  obtain ⟨c0, c1, c2, HI, HK⟩ := R
  have b0 : (0 : Int) ≤ (o : Int) := Int.natCast_nonneg _
  have ck := HK q hq
  rw [hk] at ck
  have ci := HI q hq
  clear hk HI HK
  by_cases hx : inAt r q = x
  · have hne : (inAt r q == x) = true := by simp [hx]
    have HR := Lib.hid (hasErr_eq hx)
    clear hx
    go_enter Try.func12, Try.ntmps12
    go_wp2_with (go_at_call 22; refine (none_in c0 ho q hq).mono ?_; rintro e w1 ⟨rfl, rfl⟩)
    go_ret
    exact ⟨by rw [HR.out]; rfl, rfl⟩
  · have hne : (inAt r q == x) = false := by simpa using hx
    have HR := Lib.hid (hasErr_ne hx)
    clear hx
    go_enter Try.func12, Try.ntmps12
    go_wp2_with (go_at_call 22; refine (none_in c0 ho q hq).mono ?_; rintro e w1 ⟨rfl, rfl⟩)
    go_ret
    exact ⟨by rw [HR.out]; rfl, rfl⟩

set_option maxRecDepth 100000 in
theorem rput_new {W0 w : World} {L : List Asn} {p n o gb hb : Nat} {cs : List Value} {r : PRow} (S : Sat W0 w (rrL p gb hb cs r L)) (C : RC cs n o gb hb) (hok : r.ok n) (ho : o < 2) (hn : n ≤ 600)
    (q : Nat) (hq : q < n) (hk : isKn r q = false) (x : Int) :
    Calls Try.prog 12 #[.pointer (some ⟨p, 0, none⟩), .int .i64 o, .int .i64 q, .int .u16 x] w fun e w' => e = .returned (.int .i64 0) ∧
      Sat W0 w' (rrL p gb hb cs ⟨r.ins.set q x, r.kn.set q true⟩ L) := by
  obtain ⟨c0, c1, c2, HI, HK⟩ := rr_of S C hok
  have b0 : (0 : Int) ≤ (o : Int) := Int.natCast_nonneg _
  have ck := HK q hq
  rw [hk] at ck
  have ci := HI q hq
  have fi := S.frozen 1 rfl q
  have fk := S.frozen 2 rfl q
  have n1 : p ≠ gb := S.ne [0, 0] rfl
  have n2 : p ≠ hb := S.ne [0, 1] rfl
  have n3 : gb ≠ hb := S.ne [1, 1] rfl
  clear hk HI HK
  go_enter Try.func12, Try.ntmps12
  go_wp2_with (go_at_call 22; refine (none_in c0 ho q hq).mono ?_; rintro e w1 ⟨rfl, rfl⟩)
  go_ret
  refine ⟨rfl, ?_⟩
  have S2 := (Sat.setCell S (k := q) (v := .bool true) 2 rfl).setCell (k := q) (v := .int .u16 x) 1 rfl
  have e1 : uv (r.ins.set q x) = (uv r.ins).set q (.int .u16 x) := by simp [uv, List.map_set]
  have e2 : kv (r.kn.set q true) = (kv r.kn).set q (.bool true) := by simp [kv, List.map_set]
  unfold rrL
  rw [e1, e2]
  exact S2

def csR (n : Nat) (x : Nat × Nat × Nat × Nat) : List Value :=
  [.int .i64 n, .slice (some ⟨x.1, 0, none⟩) n n, .slice (some ⟨x.2.2.1, 0, none⟩) n n, .slice (some ⟨x.2.1, 0, none⟩) n n, .slice (some ⟨x.2.2.2, 0, none⟩) n n]
def rquL (p : Nat) (q : PQ) (x : Nat × Nat × Nat × Nat) : List Asn :=
  [blk p (csR q.n x) 62, blk x.1 (uv q.r0.ins) 29, blk x.2.1 (kv q.r0.kn) 4, blk x.2.2.1 (uv q.r1.ins) 29, blk x.2.2.2 (kv q.r1.kn) 4]
/-- the document's Queue at p -/
def RQu (p : Nat) (q : PQ) : Asn := exA fun x => all (rquL p q x)
theorem RQu_open {W0 w : World} {L : List Asn} {p : Nat} {q : PQ} : Sat W0 w (RQu p q :: L) ↔ ∃ x, Sat W0 w (rquL p q x ++ L) := by
  unfold RQu
  rw [Sat.ex]
  exact exists_congr fun x => Sat.flat

theorem rr0 {W0 w : World} {L : List Asn} {p : Nat} {q : PQ} {x : Nat × Nat × Nat × Nat} (S : Sat W0 w (rquL p q x ++ L)) (hq : q.ok) : RR w p q.n 0 x.1 x.2.1 q.r0 :=
  rr_of (cs := csR q.n x) (L := [blk x.2.2.1 (uv q.r1.ins) 29, blk x.2.2.2 (kv q.r1.kn) 4] ++ L) S ⟨rfl, rfl, rfl⟩ hq.2.1
theorem rr1 {W0 w : World} {L : List Asn} {p : Nat} {q : PQ} {x : Nat × Nat × Nat × Nat} (S : Sat W0 w (rquL p q x ++ L)) (hq : q.ok) : RR w p q.n 1 x.2.2.1 x.2.2.2 q.r1 :=
  rr_of (cs := csR q.n x) (L := [blk x.1 (uv q.r0.ins) 29, blk x.2.1 (kv q.r0.kn) 4] ++ L) (S.sel [0, 2, 2]) ⟨rfl, rfl, rfl⟩ hq.2.2

def RPutted (W0 : World) (L : List Asn) (p : Nat) (q : PQ) (j fr x : Int) (e : Ending) (w' : World) : Prop :=
  e = .returned (.int .i64 (q.put j fr x).1) ∧ Sat W0 w' (RQu p (q.put j fr x).2 :: L)

theorem rput_row {W0 w : World} {L : List Asn} {p n o gb hb : Nat} {cs : List Value} {r : PRow} (S : Sat W0 w (rrL p gb hb cs r L)) (C : RC cs n o gb hb) (hok : r.ok n) (ho : o < 2) (hn : n ≤ 600) (fr x : Int) :
    Calls Try.prog 12 #[.pointer (some ⟨p, 0, none⟩), .int .i64 o, .int .i64 fr, .int .u16 x] w fun e w' => e = .returned (.int .i64 (putR n r fr x).1) ∧
      Sat W0 w' (rrL p gb hb cs (putR n r fr x).2 L) := by
  by_cases hbad : fr < 0 ∨ (n : Int) ≤ fr
  · have e : putR n r fr x = (1, r) := by unfold putR; rw [if_pos hbad]
    refine (rput_out x (rr_of S C hok).cN (.inr (.inr hbad))).mono ?_
    rintro e' w' ⟨rfl, rfl⟩
    rw [e]
    exact ⟨rfl, S⟩
  · obtain ⟨q, rfl⟩ := Int.eq_ofNat_of_zero_le (show 0 ≤ fr by omega)
    have hq : q < n := by omega
    cases hk : isKn r q with
    | true =>
      have e : putR n r q x = (hasErr (inAt r q) x, r) := by unfold putR; rw [if_neg hbad, Int.toNat_natCast, if_pos hk]
      refine (rput_has (rr_of S C hok) ho hn q hq hk x).mono ?_
      rintro e' w' ⟨rfl, rfl⟩
      rw [e]
      exact ⟨rfl, S⟩
    | false =>
      have e : putR n r q x = (0, ⟨r.ins.set q x, r.kn.set q true⟩) := by unfold putR; rw [if_neg hbad, Int.toNat_natCast, if_neg (by rw [hk]; simp)]
      refine (rput_new S C hok ho hn q hq hk x).mono ?_
      rintro e' w' ⟨rfl, S2⟩
      rw [e]
      exact ⟨rfl, S2⟩

theorem rput_any {W0 w : World} {L : List Asn} {p : Nat} {q : PQ} (S : Sat W0 w (RQu p q :: L)) (hq : q.ok) (j fr x : Int) :
    Calls Try.prog 12 #[.pointer (some ⟨p, 0, none⟩), .int .i64 j, .int .i64 fr, .int .u16 x] w (RPutted W0 L p q j fr x) := by
  obtain ⟨⟨g0, h0, g1, h1⟩, S1⟩ := RQu_open.1 S
  by_cases j0 : j = 0
  · subst j0
    have e : q.put 0 fr x = ((putR q.n q.r0 fr x).1, { q with r0 := (putR q.n q.r0 fr x).2 }) := by unfold PQ.put; rw [if_pos rfl]
    refine (rput_row (o := 0) (cs := csR q.n (g0, h0, g1, h1)) (L := [blk g1 (uv q.r1.ins) 29, blk h1 (kv q.r1.kn) 4] ++ L) S1 ⟨rfl, rfl, rfl⟩ hq.2.1 (by omega) hq.1 fr x).mono ?_
    rintro e' w' ⟨rfl, S2⟩
    unfold RPutted
    rw [e]
    exact ⟨rfl, RQu_open.2 ⟨(g0, h0, g1, h1), S2⟩⟩
  · by_cases j1 : j = 1
    · subst j1
      have e : q.put 1 fr x = ((putR q.n q.r1 fr x).1, { q with r1 := (putR q.n q.r1 fr x).2 }) := by unfold PQ.put; rw [if_neg (by decide), if_pos rfl]
      refine (rput_row (o := 1) (cs := csR q.n (g0, h0, g1, h1)) (L := [blk g0 (uv q.r0.ins) 29, blk h0 (kv q.r0.kn) 4] ++ L) (S1.sel [0, 2, 2]) ⟨rfl, rfl, rfl⟩ hq.2.2 (by omega) hq.1 fr x).mono ?_
      rintro e' w' ⟨rfl, S2⟩
      unfold RPutted
      rw [e]
      exact ⟨rfl, RQu_open.2 ⟨(g0, h0, g1, h1), S2.sel [0, 2, 2]⟩⟩
    · have e : q.put j fr x = (1, q) := by unfold PQ.put; rw [if_neg j0, if_neg j1]
      refine (rput_out x (rr0 S1 hq).cN (by omega)).mono ?_
      rintro e' w' ⟨rfl, rfl⟩
      unfold RPutted
      rw [e]
      exact ⟨rfl, S⟩

theorem rget_any {W0 w : World} {L : List Asn} {p : Nat} {q : PQ} (S : Sat W0 w (RQu p q :: L)) (hq : q.ok) (j fr : Int) :
    Calls Try.prog 13 #[.pointer (some ⟨p, 0, none⟩), .int .i64 j, .int .i64 fr] w fun e w' => e = .returned (.tuple #[.int .u16 (q.get j fr).1, .bool (q.get j fr).2]) ∧ w = w' := by
  obtain ⟨x, S1⟩ := RQu_open.1 S
  by_cases hb : j < 0 ∨ 1 < j ∨ fr < 0
  · have e : q.get j fr = (0, false) := by
      unfold PQ.get getR
      by_cases h3 : fr < 0
      · simp [h3]
      · rw [if_neg (by omega), if_neg (by omega)]
    rw [e]
    exact rget_out hb
  · obtain ⟨k, rfl⟩ := Int.eq_ofNat_of_zero_le (show 0 ≤ fr by omega)
    rcases (show j = 0 ∨ j = 1 by omega) with rfl | rfl
    · exact rget_in (o := 0) (rr0 S1 hq) (by omega) hq.1 k
    · exact rget_in (o := 1) (rr1 S1 hq) (by omega) hq.1 k

theorem rknown_any {W0 w : World} {L : List Asn} {p : Nat} {q : PQ} (S : Sat W0 w (RQu p q :: L)) (hq : q.ok) (j : Int) :
    Calls Try.prog 15 #[.pointer (some ⟨p, 0, none⟩), .int .i64 j] w fun e w' => e = .returned (.int .i64 (q.known j)) ∧ w = w' := by
  obtain ⟨x, S1⟩ := RQu_open.1 S
  by_cases hb : j < 0 ∨ 1 < j
  · have e : q.known j = 0 := by unfold PQ.known; rw [if_neg (by omega), if_neg (by omega)]
    rw [e]
    exact rknown_out hb
  · rcases (show j = 0 ∨ j = 1 by omega) with rfl | rfl
    · exact rknown_in (o := 0) (rr0 S1 hq) (by omega) hq.2.1 hq.1
    · exact rknown_in (o := 1) (rr1 S1 hq) (by omega) hq.2.2 hq.1
end Go.Proofs.Ytbjhhkhhfjmnjaa
