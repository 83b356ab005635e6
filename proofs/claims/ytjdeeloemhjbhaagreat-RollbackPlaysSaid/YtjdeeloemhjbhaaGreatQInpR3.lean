/-
  InpR1, InpR2, InpR3 in one text (wip/tools/squeeze.py)
-/
import Derived.Test.YtjdeeloemhjbhaaGreatQInp5

section
namespace Go.Proofs.YtjdeeloemhjbhaaGreat
open Go.RowKit Go.Sep Go.Inp

/-- what is read of the row of player o -/
structure RR (w : World) (p n o gb hb : Nat) (r : PRow) : Prop where
  cN : w.cell? ⟨p, 0, none⟩ = some (.int .i64 n)
  cI : w.cell? ⟨p, 1 + o, none⟩ = some (.slice (some ⟨gb, 0, none⟩) n n)
  cS : w.cell? ⟨p, 3 + o, none⟩ = some (.slice (some ⟨hb, 0, none⟩) n n)
  ins : ∀ k, k < n → w.cell? ⟨gb, k, none⟩ = some (.int .u16 (inAt r k))
  kns : ∀ k, k < n → w.cell? ⟨hb, k, none⟩ = some (.bool (isKn r k))

set_option maxRecDepth 100000 in
theorem none_in {w : World} {p n o : Nat} (cN : w.cell? ⟨p, 0, none⟩ = some (.int .i64 n)) (ho : o < 2) (k : Nat) (hk : k < n) :
    Calls Tryz.prog 55 #[.pointer (some ⟨p, 0, none⟩), .int .i64 o, .int .i64 k] w fun e w' => e = .returned (.bool false) ∧ w = w' := by
  have e0 : (decide ((o : Int) < 0) || decide (1 < (o : Int)) || decide ((k : Int) < 0) || decide (n ≤ k)) = false := by simp; omega
  have E0 := Lib.hid e0
  clear e0
  go_enter Tryz.func55, Tryz.ntmps55
  go_wp2_with fail
  go_ret
  exact ⟨by rw [← E0.out]; rfl, rfl⟩
set_option maxRecDepth 100000 in
theorem none_out {w : World} {p n : Nat} {j fr : Int} (cN : w.cell? ⟨p, 0, none⟩ = some (.int .i64 n)) (h : j < 0 ∨ 1 < j ∨ fr < 0 ∨ (n : Int) ≤ fr) :
    Calls Tryz.prog 55 #[.pointer (some ⟨p, 0, none⟩), .int .i64 j, .int .i64 fr] w fun e w' => e = .returned (.bool true) ∧ w = w' := by
  by_cases h1 : j < 0
  · go_enter Tryz.func55, Tryz.ntmps55
    go_wp2_with fail
    go_ret
    exact ⟨rfl, rfl⟩
  by_cases h2 : 1 < j
  · go_enter Tryz.func55, Tryz.ntmps55
    go_wp2_with fail
    go_ret
    exact ⟨rfl, rfl⟩
  by_cases h3 : fr < 0
  · go_enter Tryz.func55, Tryz.ntmps55
    go_wp2_with fail
    go_ret
    exact ⟨rfl, rfl⟩
  have h4 : (n : Int) ≤ fr := by omega
  clear h
  go_enter Tryz.func55, Tryz.ntmps55
  go_wp2_with fail
  go_ret
  exact ⟨rfl, rfl⟩

set_option maxRecDepth 100000 in
theorem rget_out {w : World} {p : Nat} {j fr : Int} (h : j < 0 ∨ 1 < j ∨ fr < 0) :
    Calls Tryz.prog 39 #[.pointer (some ⟨p, 0, none⟩), .int .i64 j, .int .i64 fr] w fun e w' => e = .returned (.tuple #[.int .u16 0, .bool false]) ∧ w = w' := by
  by_cases h1 : j < 0
  · go_enter Tryz.func39, Tryz.ntmps39
    go_wp2_with fail
    go_ret2
    exact ⟨rfl, rfl⟩
  by_cases h2 : 1 < j
  · go_enter Tryz.func39, Tryz.ntmps39
    go_wp2_with fail
    go_ret2
    exact ⟨rfl, rfl⟩
  have h3 : fr < 0 := by omega
  clear h
  go_enter Tryz.func39, Tryz.ntmps39
  go_wp2_with fail
  go_ret2
  exact ⟨rfl, rfl⟩

set_option maxRecDepth 100000 in
theorem rget_in {w : World} {p n o gb hb : Nat} {r : PRow} (R : RR w p n o gb hb r) (ho : o < 2) (hn : n ≤ 600) (q : Nat) :
    Calls Tryz.prog 39 #[.pointer (some ⟨p, 0, none⟩), .int .i64 o, .int .i64 q] w fun e w' => e = .returned (.tuple #[.int .u16 (getR n r q).1, .bool (getR n r q).2]) ∧ w = w' := by
  obtain ⟨c0, c1, c2, HI, HK⟩ := R
  have b0 : (0 : Int) ≤ (o : Int) := Int.natCast_nonneg _
  by_cases hk : q < n ∧ isKn r q = true
  · have HG : Hid (getR n r q = (inAt r q, true)) := by show _ = _; unfold getR; rw [if_neg (by omega), if_pos ⟨by omega, hk.2⟩]; rfl
    have ck := HK q hk.1
    rw [hk.2] at ck
    have ci := HI q hk.1
    have hq := hk.1
    clear hk HI HK
    go_enter Tryz.func39, Tryz.ntmps39
    go_wp2_with fail
    go_ret2
    exact ⟨by rw [HG.out]; rfl, rfl⟩
  · have HG : Hid (getR n r q = (guess r (min q n), false)) := by show _ = _; unfold getR; rw [if_neg (by omega), if_neg (fun h => hk ⟨by omega, h.2⟩)]; rfl
    have hun : n ≤ q ∨ (q < n ∧ w.cell? ⟨hb, q, none⟩ = some (.bool false)) := by
      by_cases hq : q < n
      · refine .inr ⟨hq, ?_⟩
        rw [HK q hq, show isKn r q = false by cases hh : isKn r q; rfl; exact absurd ⟨hq, hh⟩ hk]
      · exact .inl (by omega)
    clear hk
    have hmin : (n ≤ q → min q n = n) ∧ (q < n → min q n = q) := ⟨fun _ => by omega, fun _ => by omega⟩
    rcases hun with hq | ⟨hq, ck⟩
    all_goals
      first | (rw [hmin.1 hq] at HG; have hmi : min (q : Int) (n : Int) = (n : Int) := by omega) | (rw [hmin.2 hq] at HG; have hmi : min (q : Int) (n : Int) = (q : Int) := by omega)
      clear hmin
      have HH := Lib.hid HK
      have HJ := Lib.hid HI
      clear HK HI
      go_enter Tryz.func39, Tryz.ntmps39
      go_wp2_with fail
      all_goals
        go_loop [8] (fun i => ∃ z : Int, ∃ k : Nat, i = .int .i64 z ∧ Hid (z = k - 1) ∧ k ≤ n ∧ Hid (getR n r q = (guess r k, false))) (fun i => (intOf i + 1).toNat)
        case atStart => first | exact ⟨_, _, rfl, rfl, by omega, HG⟩ | exact ⟨_, q, rfl, rfl, by omega, (show q = n by omega) ▸ HG⟩
        case round =>
          obtain ⟨z, k, rfl, hz, hkn, HK⟩ := hrel
          cases k with
          | zero =>
            obtain rfl : z = -1 := by have := hz.out; omega
            go_wp2
            go_ret2
            exact ⟨by rw [HK.out]; rfl, rfl⟩
          | succ k =>
            obtain rfl : z = (k : Int) := by have := hz.out; omega
            have ck2 := HH.out k (by omega)
            have ci2 := HJ.out k (by omega)
            by_cases hkk : isKn r k = true
            · rw [hkk] at ck2
              have HK2 : Hid (getR n r q = (inAt r k, false)) := by show _ = _; rw [HK.out, guess, if_pos hkk]
              clear hkk
              go_wp2
              go_ret2
              exact ⟨by rw [HK2.out]; rfl, rfl⟩
            · have hkf : isKn r k = false := by cases hh : isKn r k; rfl; exact absurd hh hkk
              rw [hkf] at ck2
              have HK2 : Hid (getR n r q = (guess r k, false)) := by show _ = _; rw [HK.out, guess, if_neg hkk]
              clear hkk hkf
              go_wp2
              go_round
              case rel => exact ⟨_, k, rfl, rfl, by omega, HK2⟩
              case measure => simp [intOf]

set_option maxRecDepth 100000 in
theorem rknown_out {w : World} {p : Nat} {j : Int} (h : j < 0 ∨ 1 < j) :
    Calls Tryz.prog 43 #[.pointer (some ⟨p, 0, none⟩), .int .i64 j] w fun e w' => e = .returned (.int .i64 0) ∧ w = w' := by
  rcases h with h | h
  all_goals
    go_enter Tryz.func43, Tryz.ntmps43
    go_wp2_with fail
    go_ret
    exact ⟨rfl, rfl⟩

set_option maxRecDepth 100000 in
theorem rknown_in {w : World} {p n o gb hb : Nat} {r : PRow} (R : RR w p n o gb hb r) (ho : o < 2) (hok : r.ok n) (hn : n ≤ 600) :
    Calls Tryz.prog 43 #[.pointer (some ⟨p, 0, none⟩), .int .i64 o] w fun e w' => e = .returned (.int .i64 (lead r.kn)) ∧ w = w' := by
  obtain ⟨c0, c1, c2, HI, HK⟩ := R
  have b0 : (0 : Int) ≤ (o : Int) := Int.natCast_nonneg _
  have hle : lead r.kn ≤ n := by have := lead_le r.kn; rw [hok.2] at this; exact this
  have HH := Lib.hid HK
  clear HK HI
  go_enter Tryz.func43, Tryz.ntmps43
  go_wp2_with fail
  go_loop [5] (fun i => ∃ k : Nat, i = .int .i64 k ∧ k ≤ lead r.kn) (fun i => n - (intOf i).toNat)
  case atStart => exact ⟨0, rfl, by omega⟩
  case round =>
    obtain ⟨k, rfl, hk⟩ := hrel
    by_cases hl : k < lead r.kn
    · have ck := HH.out k (by omega)
      have e : isKn r k = true := by unfold isKn; rw [lead_lt hl]; rfl
      rw [e] at ck
      have hkn : k < n := by omega
      clear e
      go_wp2
      go_round
      case rel => exact ⟨k + 1, rfl, by omega⟩
      case measure => simp [intOf]; omega
    · obtain rfl : k = lead r.kn := by omega
      by_cases hkn : lead r.kn < n
      · have ck := HH.out (lead r.kn) hkn
        have e : isKn r (lead r.kn) = false := by
          unfold isKn
          have h0 := lead_at (l := r.kn)
          cases hh : r.kn[lead r.kn]? with
          | none => rfl
          | some b => cases b; rfl; exact absurd hh h0
        rw [e] at ck
        clear e hl hk
        go_wp2
        go_ret
        exact ⟨rfl, rfl⟩
      · clear hl hk
        go_wp2
        go_ret
        exact ⟨rfl, rfl⟩
end Go.Proofs.YtjdeeloemhjbhaaGreat
end

section
namespace Go.Proofs.YtjdeeloemhjbhaaGreat
open Go.RowKit Go.Sep Go.Inp

def rrL (p gb hb : Nat) (cs : List Value) (r : PRow) (L : List Asn) : List Asn :=
  blk p cs 116 :: blk gb (uv r.ins) 38 :: blk hb (kv r.kn) 4 :: L
structure RC (cs : List Value) (n o gb hb : Nat) : Prop where
  cN : cs[0]? = some (.int .i64 n)
  cI : cs[1 + o]? = some (.slice (some ⟨gb, 0, none⟩) n n)
  cS : cs[3 + o]? = some (.slice (some ⟨hb, 0, none⟩) n n)

theorem rr_of {W0 w : World} {L : List Asn} {p n o gb hb : Nat} {cs : List Value} {r : PRow} (S : Sat W0 w (rrL p gb hb cs r L)) (C : RC cs n o gb hb) (hok : r.ok n) : RR w p n o gb hb r :=
  ⟨by rw [Sat.cell S 0 rfl, C.cN], by rw [Sat.cell S 0 rfl, C.cI], by rw [Sat.cell S 0 rfl, C.cS],
   fun k hk => by rw [Sat.cell S 1 rfl]; unfold inAt; simp [uv, List.getElem?_eq_getElem (show k < r.ins.length by rw [hok.1]; exact hk)],
   fun k hk => by rw [Sat.cell S 2 rfl]; unfold isKn; simp [kv, List.getElem?_eq_getElem (show k < r.kn.length by rw [hok.2]; exact hk)]⟩

set_option maxRecDepth 100000 in
theorem rput_out {w : World} {p n : Nat} {j fr : Int} (x : Int) (cN : w.cell? ⟨p, 0, none⟩ = some (.int .i64 n)) (h : j < 0 ∨ 1 < j ∨ fr < 0 ∨ (n : Int) ≤ fr) :
    Calls Tryz.prog 38 #[.pointer (some ⟨p, 0, none⟩), .int .i64 j, .int .i64 fr, .int .u16 x] w fun e w' => e = .returned (.int .i64 1) ∧ w = w' := by
  go_enter Tryz.func38, Tryz.ntmps38
  go_wp2_with (go_at_call 55; refine (none_out cN h).mono ?_; rintro e w1 ⟨rfl, rfl⟩)
  go_ret
  exact ⟨rfl, rfl⟩

set_option maxRecDepth 100000 in
theorem rput_has {w : World} {p n o gb hb : Nat} {r : PRow} (R : RR w p n o gb hb r) (ho : o < 2) (hn : n ≤ 600) (q : Nat) (hq : q < n) (hk : isKn r q = true) (x : Int) :
    Calls Tryz.prog 38 #[.pointer (some ⟨p, 0, none⟩), .int .i64 o, .int .i64 q, .int .u16 x] w fun e w' => e = .returned (.int .i64 (hasErr (inAt r q) x)) ∧ w = w' := by
  obtain ⟨c0, c1, c2, HI, HK⟩ := R
  have b0 : (0 : Int) ≤ (o : Int) := Int.natCast_nonneg _
  have ck := HK q hq
  rw [hk] at ck
  have ci := HI q hq
  clear hk HI HK
  by_cases hx : inAt r q = x
  · have hne : (inAt r q == x) = true := by simp [hx]
    have HR := Lib.hid (hasErr_eq hx)
    clear hx
    go_enter Tryz.func38, Tryz.ntmps38
    go_wp2_with (go_at_call 55; refine (none_in c0 ho q hq).mono ?_; rintro e w1 ⟨rfl, rfl⟩)
    go_ret
    exact ⟨by rw [HR.out]; rfl, rfl⟩
  · have hne : (inAt r q == x) = false := by simpa using hx
    have HR := Lib.hid (hasErr_ne hx)
    clear hx
    go_enter Tryz.func38, Tryz.ntmps38
    go_wp2_with (go_at_call 55; refine (none_in c0 ho q hq).mono ?_; rintro e w1 ⟨rfl, rfl⟩)
    go_ret
    exact ⟨by rw [HR.out]; rfl, rfl⟩

set_option maxRecDepth 100000 in
theorem rput_new {W0 w : World} {L : List Asn} {p n o gb hb : Nat} {cs : List Value} {r : PRow} (S : Sat W0 w (rrL p gb hb cs r L)) (C : RC cs n o gb hb) (hok : r.ok n) (ho : o < 2) (hn : n ≤ 600)
    (q : Nat) (hq : q < n) (hk : isKn r q = false) (x : Int) :
    Calls Tryz.prog 38 #[.pointer (some ⟨p, 0, none⟩), .int .i64 o, .int .i64 q, .int .u16 x] w fun e w' => e = .returned (.int .i64 0) ∧
      Sat W0 w' (rrL p gb hb cs ⟨r.ins.set q x, r.kn.set q true⟩ L) := by
  obtain ⟨c0, c1, c2, HI, HK⟩ := rr_of S C hok
  have b0 : (0 : Int) ≤ (o : Int) := Int.natCast_nonneg _
  have ck := HK q hq
  rw [hk] at ck
  have ci := HI q hq
  have fi := S.frozen 1 rfl q
  have fk := S.frozen 2 rfl q
  have n1 : p ≠ gb := S.ne [0, 0] rfl
  have n2 : p ≠ hb := S.ne [0, 1] rfl
  have n3 : gb ≠ hb := S.ne [1, 1] rfl
  clear hk HI HK
  go_enter Tryz.func38, Tryz.ntmps38
  go_wp2_with (go_at_call 55; refine (none_in c0 ho q hq).mono ?_; rintro e w1 ⟨rfl, rfl⟩)
  go_ret
  refine ⟨rfl, ?_⟩
  have S2 := (Sat.setCell S (k := q) (v := .bool true) 2 rfl).setCell (k := q) (v := .int .u16 x) 1 rfl
  have e1 : uv (r.ins.set q x) = (uv r.ins).set q (.int .u16 x) := by simp [uv, List.map_set]
  have e2 : kv (r.kn.set q true) = (kv r.kn).set q (.bool true) := by simp [kv, List.map_set]
  unfold rrL
  rw [e1, e2]
  exact S2

def csR (n : Nat) (x : Nat × Nat × Nat × Nat) : List Value :=
  [.int .i64 n, .slice (some ⟨x.1, 0, none⟩) n n, .slice (some ⟨x.2.2.1, 0, none⟩) n n, .slice (some ⟨x.2.1, 0, none⟩) n n, .slice (some ⟨x.2.2.2, 0, none⟩) n n]
def rquL (p : Nat) (q : PQ) (x : Nat × Nat × Nat × Nat) : List Asn :=
  [blk p (csR q.n x) 116, blk x.1 (uv q.r0.ins) 38, blk x.2.1 (kv q.r0.kn) 4, blk x.2.2.1 (uv q.r1.ins) 38, blk x.2.2.2 (kv q.r1.kn) 4]
/-- the document's Queue at p -/
def RQu (p : Nat) (q : PQ) : Asn := exA fun x => all (rquL p q x)
theorem RQu_open {W0 w : World} {L : List Asn} {p : Nat} {q : PQ} : Sat W0 w (RQu p q :: L) ↔ ∃ x, Sat W0 w (rquL p q x ++ L) := by
  unfold RQu
  rw [Sat.ex]
  exact exists_congr fun x => Sat.flat

theorem rr0 {W0 w : World} {L : List Asn} {p : Nat} {q : PQ} {x : Nat × Nat × Nat × Nat} (S : Sat W0 w (rquL p q x ++ L)) (hq : q.ok) : RR w p q.n 0 x.1 x.2.1 q.r0 :=
  rr_of (cs := csR q.n x) (L := [blk x.2.2.1 (uv q.r1.ins) 38, blk x.2.2.2 (kv q.r1.kn) 4] ++ L) S ⟨rfl, rfl, rfl⟩ hq.2.1
theorem rr1 {W0 w : World} {L : List Asn} {p : Nat} {q : PQ} {x : Nat × Nat × Nat × Nat} (S : Sat W0 w (rquL p q x ++ L)) (hq : q.ok) : RR w p q.n 1 x.2.2.1 x.2.2.2 q.r1 :=
  rr_of (cs := csR q.n x) (L := [blk x.1 (uv q.r0.ins) 38, blk x.2.1 (kv q.r0.kn) 4] ++ L) (S.sel [0, 2, 2]) ⟨rfl, rfl, rfl⟩ hq.2.2

def RPutted (W0 : World) (L : List Asn) (p : Nat) (q : PQ) (j fr x : Int) (e : Ending) (w' : World) : Prop :=
  e = .returned (.int .i64 (q.put j fr x).1) ∧ Sat W0 w' (RQu p (q.put j fr x).2 :: L)

theorem rput_row {W0 w : World} {L : List Asn} {p n o gb hb : Nat} {cs : List Value} {r : PRow} (S : Sat W0 w (rrL p gb hb cs r L)) (C : RC cs n o gb hb) (hok : r.ok n) (ho : o < 2) (hn : n ≤ 600) (fr x : Int) :
    Calls Tryz.prog 38 #[.pointer (some ⟨p, 0, none⟩), .int .i64 o, .int .i64 fr, .int .u16 x] w fun e w' => e = .returned (.int .i64 (putR n r fr x).1) ∧
      Sat W0 w' (rrL p gb hb cs (putR n r fr x).2 L) := by
  by_cases hbad : fr < 0 ∨ (n : Int) ≤ fr
  · have e : putR n r fr x = (1, r) := by unfold putR; rw [if_pos hbad]
    refine (rput_out x (rr_of S C hok).cN (.inr (.inr hbad))).mono ?_
    rintro e' w' ⟨rfl, rfl⟩
    rw [e]
    exact ⟨rfl, S⟩
  · obtain ⟨q, rfl⟩ := Int.eq_ofNat_of_zero_le (show 0 ≤ fr by omega)
    have hq : q < n := by omega
    cases hk : isKn r q with
    | true =>
      have e : putR n r q x = (hasErr (inAt r q) x, r) := by unfold putR; rw [if_neg hbad, Int.toNat_natCast, if_pos hk]
      refine (rput_has (rr_of S C hok) ho hn q hq hk x).mono ?_
      rintro e' w' ⟨rfl, rfl⟩
      rw [e]
      exact ⟨rfl, S⟩
    | false =>
      have e : putR n r q x = (0, ⟨r.ins.set q x, r.kn.set q true⟩) := by unfold putR; rw [if_neg hbad, Int.toNat_natCast, if_neg (by rw [hk]; simp)]
      refine (rput_new S C hok ho hn q hq hk x).mono ?_
      rintro e' w' ⟨rfl, S2⟩
      rw [e]
      exact ⟨rfl, S2⟩

theorem rput_any {W0 w : World} {L : List Asn} {p : Nat} {q : PQ} (S : Sat W0 w (RQu p q :: L)) (hq : q.ok) (j fr x : Int) :
    Calls Tryz.prog 38 #[.pointer (some ⟨p, 0, none⟩), .int .i64 j, .int .i64 fr, .int .u16 x] w (RPutted W0 L p q j fr x) := by
  obtain ⟨⟨g0, h0, g1, h1⟩, S1⟩ := RQu_open.1 S
  by_cases j0 : j = 0
  · subst j0
    have e : q.put 0 fr x = ((putR q.n q.r0 fr x).1, { q with r0 := (putR q.n q.r0 fr x).2 }) := by unfold PQ.put; rw [if_pos rfl]
    refine (rput_row (o := 0) (cs := csR q.n (g0, h0, g1, h1)) (L := [blk g1 (uv q.r1.ins) 38, blk h1 (kv q.r1.kn) 4] ++ L) S1 ⟨rfl, rfl, rfl⟩ hq.2.1 (by omega) hq.1 fr x).mono ?_
    rintro e' w' ⟨rfl, S2⟩
    unfold RPutted
    rw [e]
    exact ⟨rfl, RQu_open.2 ⟨(g0, h0, g1, h1), S2⟩⟩
  · by_cases j1 : j = 1
    · subst j1
      have e : q.put 1 fr x = ((putR q.n q.r1 fr x).1, { q with r1 := (putR q.n q.r1 fr x).2 }) := by unfold PQ.put; rw [if_neg (by decide), if_pos rfl]
      refine (rput_row (o := 1) (cs := csR q.n (g0, h0, g1, h1)) (L := [blk g0 (uv q.r0.ins) 38, blk h0 (kv q.r0.kn) 4] ++ L) (S1.sel [0, 2, 2]) ⟨rfl, rfl, rfl⟩ hq.2.2 (by omega) hq.1 fr x).mono ?_
      rintro e' w' ⟨rfl, S2⟩
      unfold RPutted
      rw [e]
      exact ⟨rfl, RQu_open.2 ⟨(g0, h0, g1, h1), S2.sel [0, 2, 2]⟩⟩
    · have e : q.put j fr x = (1, q) := by unfold PQ.put; rw [if_neg j0, if_neg j1]
      refine (rput_out x (rr0 S1 hq).cN (by omega)).mono ?_
      rintro e' w' ⟨rfl, rfl⟩
      unfold RPutted
      rw [e]
      exact ⟨rfl, S⟩

theorem rget_any {W0 w : World} {L : List Asn} {p : Nat} {q : PQ} (S : Sat W0 w (RQu p q :: L)) (hq : q.ok) (j fr : Int) :
    Calls Tryz.prog 39 #[.pointer (some ⟨p, 0, none⟩), .int .i64 j, .int .i64 fr] w fun e w' => e = .returned (.tuple #[.int .u16 (q.get j fr).1, .bool (q.get j fr).2]) ∧ w = w' := by
  obtain ⟨x, S1⟩ := RQu_open.1 S
  by_cases hb : j < 0 ∨ 1 < j ∨ fr < 0
  · have e : q.get j fr = (0, false) := by
      unfold PQ.get getR
      by_cases h3 : fr < 0
      · simp [h3]
      · rw [if_neg (by omega), if_neg (by omega)]
    rw [e]
    exact rget_out hb
  · obtain ⟨k, rfl⟩ := Int.eq_ofNat_of_zero_le (show 0 ≤ fr by omega)
    rcases (show j = 0 ∨ j = 1 by omega) with rfl | rfl
    · exact rget_in (o := 0) (rr0 S1 hq) (by omega) hq.1 k
    · exact rget_in (o := 1) (rr1 S1 hq) (by omega) hq.1 k

theorem rknown_any {W0 w : World} {L : List Asn} {p : Nat} {q : PQ} (S : Sat W0 w (RQu p q :: L)) (hq : q.ok) (j : Int) :
    Calls Tryz.prog 43 #[.pointer (some ⟨p, 0, none⟩), .int .i64 j] w fun e w' => e = .returned (.int .i64 (q.known j)) ∧ w = w' := by
  obtain ⟨x, S1⟩ := RQu_open.1 S
  by_cases hb : j < 0 ∨ 1 < j
  · have e : q.known j = 0 := by unfold PQ.known; rw [if_neg (by omega), if_neg (by omega)]
    rw [e]
    exact rknown_out hb
  · rcases (show j = 0 ∨ j = 1 by omega) with rfl | rfl
    · exact rknown_in (o := 0) (rr0 S1 hq) (by omega) hq.2.1 hq.1
    · exact rknown_in (o := 1) (rr1 S1 hq) (by omega) hq.2.2 hq.1
end Go.Proofs.YtjdeeloemhjbhaaGreat
end

section
namespace Go.Proofs.YtjdeeloemhjbhaaGreat
open Go.RowKit Go.Sep Go.Inp

set_option maxRecDepth 100000 in
theorem rnew_bad (w : World) {n : Int} (h : n < 1 ∨ 600 < n) : Calls Tryz.prog 37 #[.int .i64 n] w fun e w' => e = .returned (.tuple #[.pointer none, .int .i64 1]) ∧ w = w' := by
  rcases h with h | h
  all_goals
    go_enter Tryz.func37, Tryz.ntmps37
    go_wp2_with fail
    go_ret2
    exact ⟨rfl, rfl⟩

def RNewSt (W0 : World) (L : List Asn) (p n : Nat) : Nat → World → Prop
  | 0, w => Sat W0 w (blk p [.int .i64 n, .slice none 0 0, .slice none 0 0, .slice none 0 0, .slice none 0 0] 116 :: L)
  | 1, w => ∃ g h, Sat W0 w (blk p [.int .i64 n, .slice (some ⟨g, 0, none⟩) n n, .slice none 0 0, .slice (some ⟨h, 0, none⟩) n n, .slice none 0 0] 116 :: blk g (uv (List.replicate n 0)) 38 :: blk h (kv (List.replicate n false)) 4 :: L)
  | _, w => ∃ g h g' h', Sat W0 w (blk p (csR n (g, h, g', h')) 116 :: blk g (uv (List.replicate n 0)) 38 :: blk h (kv (List.replicate n false)) 4 :: blk g' (uv (List.replicate n 0)) 38 :: blk h' (kv (List.replicate n false)) 4 :: L)

set_option maxRecDepth 100000 in
theorem rnew_any {W0 w : World} {L : List Asn} (S : Sat W0 w L) (n : Nat) (h1 : 1 ≤ n) (h2 : n ≤ 600) :
    Calls Tryz.prog 37 #[.int .i64 n] w fun e w' => ∃ p, e = .returned (.tuple #[.pointer (some ⟨p, 0, none⟩), .int .i64 0]) ∧ Sat W0 w' (RQu p (PQ.new n) :: L) := by
  have hu := fun w => mk_u w n h2
  have hk := fun w => mk_k w n h2
  have S0 : RNewSt W0 L w.heap.size n 0 (w.alloc (.cells #[.int .i64 n, .slice none 0 0, .slice none 0 0, .slice none 0 0, .slice none 0 0] 116)) := S.alloc [.int .i64 n, .slice none 0 0, .slice none 0 0, .slice none 0 0, .slice none 0 0] _
  go_enter Tryz.func37, Tryz.ntmps37
  go_wp2_with fail
  go_loopw [5] (fun i wr => ∃ k : Nat, k ≤ 2 ∧ i = .int .i64 k ∧ RNewSt W0 L w.heap.size n k wr) (fun i _ => 2 - (intOf i).toNat)
  case atStart => exact ⟨0, by omega, rfl, S0⟩
  case round =>
    obtain ⟨k, hkk, rfl, S1⟩ := hrel
    match k, hkk, S1 with
    | 0, _, S1 =>
      have S1' : Sat W0 wr (blk w.heap.size [.int .i64 n, .slice none 0 0, .slice none 0 0, .slice none 0 0, .slice none 0 0] 116 :: L) := S1
      have c1 := S1'.cell 0 rfl 1
      have c3 := S1'.cell 0 rfl 3
      have fz := fun k => S1'.frozen 0 rfl k
      have hlt := (S1'.block 0 rfl).2.2
      simp only [List.getElem?_cons_zero, List.getElem?_cons_succ] at c1 c3
      go_wp2_with fail
      go_region
      all_goals
        go_wp2_with fail
        go_region
        all_goals
          go_wp2
          go_roundw
          case rel =>
            refine ⟨1, by omega, rfl, wr.heap.size, wr.heap.size + 1, ?_⟩
            have T := (((((S1'.setCell (k := 1) (v := .slice (some ⟨wr.heap.size, 0, none⟩) n n) 0 rfl).setCell (k := 3) (v := .slice (some ⟨wr.heap.size + 1, 0, none⟩) n n) 0 rfl).alloc (uv (List.replicate n 0)) 38).alloc (kv (List.replicate n false)) 4).drew).drew
            simp only [World.size_alloc, World.size_setCell] at T
            exact T.sel [2, 1, 0]
          case measure => simp [intOf]
    | 1, _, S1 =>
      obtain ⟨g, h, S1'⟩ : ∃ g h, Sat W0 wr (blk w.heap.size [.int .i64 n, .slice (some ⟨g, 0, none⟩) n n, .slice none 0 0, .slice (some ⟨h, 0, none⟩) n n, .slice none 0 0] 116 :: blk g (uv (List.replicate n 0)) 38 :: blk h (kv (List.replicate n false)) 4 :: L) := S1
      have c1 := S1'.cell 0 rfl 2
      have c3 := S1'.cell 0 rfl 4
      have fz := fun k => S1'.frozen 0 rfl k
      have hlt := (S1'.block 0 rfl).2.2
      simp only [List.getElem?_cons_zero, List.getElem?_cons_succ] at c1 c3
      go_wp2_with fail
      go_region
      all_goals
        go_wp2_with fail
        go_region
        all_goals
          go_wp2
          go_roundw
          case rel =>
            refine ⟨2, by omega, rfl, g, h, wr.heap.size, wr.heap.size + 1, ?_⟩
            have T := (((((S1'.setCell (k := 2) (v := .slice (some ⟨wr.heap.size, 0, none⟩) n n) 0 rfl).setCell (k := 4) (v := .slice (some ⟨wr.heap.size + 1, 0, none⟩) n n) 0 rfl).alloc (uv (List.replicate n 0)) 38).alloc (kv (List.replicate n false)) 4).drew).drew
            simp only [World.size_alloc, World.size_setCell] at T
            exact T.sel [2, 2, 2, 1, 0]
          case measure => simp [intOf]
    | 2, _, S1 =>
      obtain ⟨g, h, g', h', S1'⟩ : ∃ g h g' h', Sat W0 wr (blk w.heap.size (csR n (g, h, g', h')) 116 :: blk g (uv (List.replicate n 0)) 38 :: blk h (kv (List.replicate n false)) 4 :: blk g' (uv (List.replicate n 0)) 38 :: blk h' (kv (List.replicate n false)) 4 :: L) := S1
      go_wp2
      go_ret2
      exact ⟨_, rfl, RQu_open.2 ⟨(g, h, g', h'), S1'⟩⟩
end Go.Proofs.YtjdeeloemhjbhaaGreat
end
