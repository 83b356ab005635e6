/-
  inputs: the Queue, whole.
-/
import Derived.Test.YtjdeeloemhjbhaaInp2
namespace Go.Proofs.Ytjdeeloemhjbhaa
open Go.RowKit Go.Sep Go.Inp

theorem qput_row {W0 w : World} {L : List Asn} {p gb hb f o n : Nat} {pre post : List Value} {r : PRow} {j : Int}
    (S : Sat W0 w (RowL p gb hb n f pre post r L)) (ho : pre.length = o) (hok : r.ok n) (hn : n ≤ 600) (hf : f = lead r.kn) (hof : OfIs p o j) (fr x : Int) :
    Calls Try.prog 21 #[.pointer (some ⟨p, 0, none⟩), .int .i64 j, .int .i64 fr, .int .u16 x] w fun e w' => e = .returned (.int .i64 (putR n r fr x).1) ∧
      Sat W0 w' (RowL p gb hb n (lead (putR n r fr x).2.kn) pre post (putR n r fr x).2 L) := by
  by_cases hbad : fr < 0 ∨ (n : Int) ≤ fr
  · have e : putR n r fr x = (1, r) := by unfold putR; rw [if_pos hbad]
    refine (qput_bad S ho hof fr x hbad).mono ?_
    rintro e' w' ⟨rfl, rfl⟩
    rw [e]
    exact ⟨rfl, by rw [← hf]; exact S⟩
  · obtain ⟨q, rfl⟩ := Int.eq_ofNat_of_zero_le (show 0 ≤ fr by omega)
    have hq : q < n := by omega
    cases hk : isKn r q with
    | true =>
      have e : putR n r q x = (hasErr (inAt r q) x, r) := by unfold putR; rw [if_neg hbad, Int.toNat_natCast, if_pos hk]
      refine (qput_has S ho hok hof q hq hk x).mono ?_
      rintro e' w' ⟨rfl, rfl⟩
      rw [e]
      exact ⟨rfl, by rw [← hf]; exact S⟩
    | false =>
      have e : putR n r q x = (0, ⟨r.ins.set q x, r.kn.set q true⟩) := by unfold putR; rw [if_neg hbad, Int.toNat_natCast, if_neg (by rw [hk]; simp)]
      refine (qput_new S ho hok hn hf hof q hq hk x).mono ?_
      rintro e' w' ⟨rfl, S2⟩
      rw [e]
      exact ⟨rfl, S2⟩

def quL (p : Nat) (q : PQ) (x : Nat × Nat × Nat × Nat) : List Asn :=
  [blk p (rowCells x.1 x.2.1 q.n (lead q.r0.kn) ++ rowCells x.2.2.1 x.2.2.2 q.n (lead q.r1.kn)) 73, blk x.1 (uv q.r0.ins) 22, blk x.2.1 (kv q.r0.kn) 4, blk x.2.2.1 (uv q.r1.ins) 22, blk x.2.2.2 (kv q.r1.kn) 4]
/-- a Queue at p -/
def Qu (p : Nat) (q : PQ) : Asn := exA fun x => all (quL p q x)

theorem Qu_open {W0 w : World} {L : List Asn} {p : Nat} {q : PQ} : Sat W0 w (Qu p q :: L) ↔ ∃ x, Sat W0 w (quL p q x ++ L) := by
  unfold Qu
  rw [Sat.ex]
  exact exists_congr fun x => Sat.flat

def Putted (W0 : World) (L : List Asn) (p : Nat) (q : PQ) (j fr x : Int) (e : Ending) (w' : World) : Prop :=
  e = .returned (.int .i64 (q.put j fr x).1) ∧ Sat W0 w' (Qu p (q.put j fr x).2 :: L)

set_option maxRecDepth 100000 in
theorem qput_out {p : Nat} {j : Int} (h : j < 0 ∨ 1 < j) (fr x : Int) (w : World) :
    Calls Try.prog 21 #[.pointer (some ⟨p, 0, none⟩), .int .i64 j, .int .i64 fr, .int .u16 x] w fun e w' => e = .returned (.int .i64 1) ∧ w = w' := by
  go_enter Try.func21, Try.ntmps21
  go_wp2_with (go_at_call 30; refine (of_out p h _).mono ?_; rintro e w1 ⟨rfl, rfl⟩)
  go_ret
  exact ⟨rfl, rfl⟩

theorem qput_any {W0 w : World} {L : List Asn} {p : Nat} {q : PQ} (S : Sat W0 w (Qu p q :: L)) (hq : q.ok) (j fr x : Int) :
    Calls Try.prog 21 #[.pointer (some ⟨p, 0, none⟩), .int .i64 j, .int .i64 fr, .int .u16 x] w (Putted W0 L p q j fr x) := by
  obtain ⟨⟨g0, h0, g1, h1⟩, S1⟩ := Qu_open.1 S
  by_cases j0 : j = 0
  · subst j0
    have e : q.put 0 fr x = ((putR q.n q.r0 fr x).1, { q with r0 := (putR q.n q.r0 fr x).2 }) := by unfold PQ.put; rw [if_pos rfl]
    refine (qput_row (pre := []) (post := rowCells g1 h1 q.n (lead q.r1.kn)) (L := [blk g1 (uv q.r1.ins) 22, blk h1 (kv q.r1.kn) 4] ++ L) S1 rfl hq.2.1 hq.1 rfl (of_0 p) fr x).mono ?_
    rintro e' w' ⟨rfl, S2⟩
    unfold Putted
    rw [e]
    exact ⟨rfl, Qu_open.2 ⟨(g0, h0, g1, h1), S2⟩⟩
  · by_cases j1 : j = 1
    · subst j1
      have e : q.put 1 fr x = ((putR q.n q.r1 fr x).1, { q with r1 := (putR q.n q.r1 fr x).2 }) := by unfold PQ.put; rw [if_neg (by decide), if_pos rfl]
      refine (qput_row (pre := rowCells g0 h0 q.n (lead q.r0.kn)) (post := []) (L := [blk g0 (uv q.r0.ins) 22, blk h0 (kv q.r0.kn) 4] ++ L) (S1.sel [0, 2, 2]) rfl hq.2.2 hq.1 rfl (of_1 p) fr x).mono ?_
      rintro e' w' ⟨rfl, S2⟩
      unfold Putted
      rw [e]
      exact ⟨rfl, Qu_open.2 ⟨(g0, h0, g1, h1), S2.sel [0, 2, 2]⟩⟩
    · have e : q.put j fr x = (1, q) := by unfold PQ.put; rw [if_neg j0, if_neg j1]
      refine (qput_out (by omega) fr x w).mono ?_
      rintro e' w' ⟨rfl, rfl⟩
      unfold Putted
      rw [e]
      exact ⟨rfl, S⟩

set_option maxRecDepth 100000 in
theorem qget_out {p : Nat} {j : Int} (h : j < 0 ∨ 1 < j) (fr : Int) (w : World) :
    Calls Try.prog 57 #[.pointer (some ⟨p, 0, none⟩), .int .i64 j, .int .i64 fr] w fun e w' => e = .returned (.tuple #[.int .u16 0, .bool false]) ∧ w = w' := by
  go_enter Try.func57, Try.ntmps57
  go_wp2_with (go_at_call 30; refine (of_out p h _).mono ?_; rintro e w1 ⟨rfl, rfl⟩)
  go_ret2
  exact ⟨rfl, rfl⟩

theorem qget_any {W0 w : World} {L : List Asn} {p : Nat} {q : PQ} (S : Sat W0 w (Qu p q :: L)) (hq : q.ok) (j fr : Int) :
    Calls Try.prog 57 #[.pointer (some ⟨p, 0, none⟩), .int .i64 j, .int .i64 fr] w fun e w' => e = .returned (.tuple #[.int .u16 (q.get j fr).1, .bool (q.get j fr).2]) ∧ w = w' := by
  obtain ⟨⟨g0, h0, g1, h1⟩, S1⟩ := Qu_open.1 S
  by_cases j0 : j = 0
  · subst j0
    have e : q.get 0 fr = getR q.n q.r0 fr := by unfold PQ.get; rw [if_pos rfl]
    rw [e]
    exact qget_row (pre := []) (post := rowCells g1 h1 q.n (lead q.r1.kn)) (L := [blk g1 (uv q.r1.ins) 22, blk h1 (kv q.r1.kn) 4] ++ L) S1 rfl hq.2.1 hq.1 (of_0 p) fr
  · by_cases j1 : j = 1
    · subst j1
      have e : q.get 1 fr = getR q.n q.r1 fr := by unfold PQ.get; rw [if_neg (by decide), if_pos rfl]
      rw [e]
      exact qget_row (pre := rowCells g0 h0 q.n (lead q.r0.kn)) (post := []) (L := [blk g0 (uv q.r0.ins) 22, blk h0 (kv q.r0.kn) 4] ++ L) (S1.sel [0, 2, 2]) rfl hq.2.2 hq.1 (of_1 p) fr
    · have e : q.get j fr = (0, false) := by unfold PQ.get; rw [if_neg j0, if_neg j1]
      rw [e]
      exact qget_out (by omega) fr w

set_option maxRecDepth 100000 in
theorem qknown_any {W0 w : World} {L : List Asn} {p : Nat} {q : PQ} (S : Sat W0 w (Qu p q :: L)) (j : Int) :
    Calls Try.prog 26 #[.pointer (some ⟨p, 0, none⟩), .int .i64 j] w fun e w' => e = .returned (.int .i64 (q.known j)) ∧ w = w' := by
  obtain ⟨⟨g0, h0, g1, h1⟩, S1⟩ := Qu_open.1 S
  by_cases j0 : j = 0
  · subst j0
    have HE : Hid (q.known 0 = lead q.r0.kn) := by show _ = _; unfold PQ.known; rw [if_pos rfl]
    have c2 : w.cell? ⟨p, 0 + 2, none⟩ = some (.int .i64 (lead q.r0.kn)) := (row_cells (pre := []) (post := rowCells g1 h1 q.n (lead q.r1.kn)) (o := 0) S1 rfl).2.2.1
    rw [Nat.zero_add] at c2
    go_enter Try.func26, Try.ntmps26
    go_wp2_with (go_at_call 30; refine (of_0 p _).mono ?_; rintro e w1 ⟨rfl, rfl⟩)
    go_ret
    exact ⟨by rw [HE.out]; rfl, rfl⟩
  · by_cases j1 : j = 1
    · subst j1
      have HE : Hid (q.known 1 = lead q.r1.kn) := by show _ = _; unfold PQ.known; rw [if_neg (by decide), if_pos rfl]
      have c2 : w.cell? ⟨p, 3 + 2, none⟩ = some (.int .i64 (lead q.r1.kn)) := (row_cells (pre := rowCells g0 h0 q.n (lead q.r0.kn)) (post := []) (o := 3) S1 rfl).2.2.1
      go_enter Try.func26, Try.ntmps26
      go_wp2_with (go_at_call 30; refine (of_1 p _).mono ?_; rintro e w1 ⟨rfl, rfl⟩)
      go_ret
      exact ⟨by rw [HE.out]; rfl, rfl⟩
    · have HE : Hid (q.known j = 0) := by show _ = _; unfold PQ.known; rw [if_neg j0, if_neg j1]
      have hout : j < 0 ∨ 1 < j := by omega
      clear j0 j1
      go_enter Try.func26, Try.ntmps26
      go_wp2_with (go_at_call 30; refine (of_out p hout _).mono ?_; rintro e w1 ⟨rfl, rfl⟩)
      go_ret
      exact ⟨by rw [HE.out]; rfl, rfl⟩
end Go.Proofs.Ytjdeeloemhjbhaa
