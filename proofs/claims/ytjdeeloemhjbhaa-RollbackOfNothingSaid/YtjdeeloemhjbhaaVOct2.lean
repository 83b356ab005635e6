/-
  octet: what is handed out, and the Reader's methods, each as a contract over the call's own heap.
-/
import Derived.Test.YtjdeeloemhjbhaaVOct1
namespace Go.Proofs.Ytjdeeloemhjbhaa
open Go.RowKit Go.Sep Go.Oct

theorem Sat.sbs_new {W0 w : World} {L : List Asn} {g n : Nat} {bs : List Int} {post : List Value} (h : Sat W0 w (blk g (bv bs ++ post) 5 :: L)) (hn : bs.length = n) {cap : Nat} (h2 : n ≤ cap) (h3 : cap ≤ maxLen)
    (h4 : cap - n ≤ post.length) : Sat W0 w (sbs (some ⟨g, 0, none⟩) n cap bs :: L) :=
  Sat.own_new h (by simp [bv_length, hn]) h2 h3 (by omega)

set_option maxRecDepth 100000 in
theorem clone_nil (w : World) : Calls Try.prog 52 #[.slice none 0 0] w fun e w' => e = .returned (.slice none 0 0) ∧ w = w' := by
  have he := Lib.run_eql_slice_nil (P := Try.prog) w 79 5 none 0 0 0 0 Try.underlying79
  go_enter Try.func52, Try.ntmps52
  go_wp2_with fail
  go_ret
  exact ⟨rfl, rfl⟩

/-- nothing that lay in the world has turned -/
def Keep (w w' : World) : Prop := ∀ k, k < w.heap.size → w'.heap[k]? = w.heap[k]?

set_option maxRecDepth 100000 in
theorem clone_some {W0 w : World} {L : List Asn} (S : Sat W0 w L) {a : Addr} {m c : Nat} {xs : List Int} (hR : Rd w (some a) (bv xs)) (hm : xs.length = m) (hb : m ≤ 1099511627776) :
    Calls Try.prog 52 #[.slice (some a) m c] w fun e w' => ∃ ao cap, e = .returned (.slice ao m cap) ∧ Sat W0 w' (sbs ao m cap xs :: L) := by
  obtain ⟨i0, hi, hz0, hz1, hz2⟩ := info_parts Try.infoB
  have he := Lib.run_eql_slice_nil (P := Try.prog) w 79 5 (some a) m c 0 0 Try.underlying79
  have S0 : Sat W0 (w.alloc (.cells #[] 5)) (slc 5 1 (some ⟨w.heap.size, 0, none⟩) 0 0 [] :: L) := Sat.own_new (post := []) (S.alloc [] 5) rfl (Nat.le_refl _) (by unfold maxLen; omega) (by simp)
  go_enter Try.func52, Try.ntmps52
  go_wp2_with (at_builtin; go_loud (refine wpList_append_sat rfl _ _ _ rfl 5 i0 (.int .u8 0) 1 1 Try.underlying79 hi hz0 hz1 hz2 rfl (by decide) S0 rfl rfl (hR.grow (fun k hk => Below.heap_alloc w _ k hk)) (by simp [bv_length, hm]) (bv_one _) (by unfold maxLen; omega) (by omega) ?_); intro ao' cap' w' S'; rw [Nat.zero_add] at S' ⊢)
  go_ret
  exact ⟨ao', cap', rfl, S'⟩

def Rr (p : Nat) (bs : List Int) (e : Int) : Asn := exA fun (r : Option Addr × Nat) => star (blk p [.slice r.1 bs.length r.2, .int .i64 e] 107) (sbs r.1 bs.length r.2 bs)

theorem Rr_open {W0 w : World} {L : List Asn} {p : Nat} {bs : List Int} {e : Int} : Sat W0 w (Rr p bs e :: L) ↔ ∃ ao cap, Sat W0 w (blk p [.slice ao bs.length cap, .int .i64 e] 107 :: sbs ao bs.length cap bs :: L) := by
  unfold Rr
  constructor
  · intro h
    obtain ⟨⟨ao, cap⟩, h⟩ := Sat.ex.1 h
    exact ⟨ao, cap, Sat.star.1 h⟩
  · rintro ⟨ao, cap, h⟩
    exact Sat.ex.2 ⟨(ao, cap), Sat.star.2 h⟩

set_option maxRecDepth 100000 in
theorem fail_any {W0 w : World} {L : List Asn} {p : Nat} {bs : List Int} {e0 : Int} (S : Sat W0 w (Rr p bs e0 :: L)) (e1 : Int) :
    Calls Try.prog 54 #[.pointer (some ⟨p, 0, none⟩), .int .i64 e1] w fun e w' => e = .returned (.tuple #[]) ∧ Sat W0 w' (Rr p [] e1 :: L) := by
  obtain ⟨ao, cap, S⟩ := Rr_open.1 S
  have c0 := S.cell 0 rfl 0
  have c1 := S.cell 0 rfl 1
  have f0 := S.frozen 0 rfl 0
  have f1 := S.frozen 0 rfl 1
  simp only [List.getElem?_cons_zero, List.getElem?_cons_succ] at c0 c1
  go_enter Try.func54, Try.ntmps54
  go_wp2_with fail
  go_end0
  refine ⟨rfl, Rr_open.2 ⟨none, 0, ?_⟩⟩
  have S2 := (S.setCell (k := 0) (v := .slice none 0 0) 0 rfl).setCell (k := 1) (v := .int .i64 e1) 0 rfl
  have S3 := (S2.bring 1).tail
  exact (((Sat.own_none (e := 5) (size := 1)).2 ⟨rfl, rfl, rfl, S3⟩).bring 1)

set_option maxRecDepth 100000 in
theorem take_err {W0 w : World} {L : List Asn} {p : Nat} {bs : List Int} {e0 : Int} (S : Sat W0 w (Rr p bs e0 :: L)) (n : Int) (he : e0 ≠ 0) :
    Calls Try.prog 53 #[.pointer (some ⟨p, 0, none⟩), .int .i64 n] w fun e w' => e = .returned (.slice none 0 0) ∧ w = w' := by
  obtain ⟨ao, cap, S⟩ := Rr_open.1 S
  have c1 := S.cell 0 rfl 1
  simp only [List.getElem?_cons_zero, List.getElem?_cons_succ] at c1
  have hne : (e0 != 0) = true := by simpa using he
  go_enter Try.func53, Try.ntmps53
  go_wp2_with fail
  go_ret
  exact ⟨rfl, rfl⟩

set_option maxRecDepth 100000 in
theorem take_short {W0 w : World} {L : List Asn} {p : Nat} {bs : List Int} (S : Sat W0 w (Rr p bs 0 :: L)) (n : Nat) (hn : bs.length < n) :
    Calls Try.prog 53 #[.pointer (some ⟨p, 0, none⟩), .int .i64 n] w fun e w' => e = .returned (.slice none 0 0) ∧ Sat W0 w' (Rr p [] 2 :: L) := by
  obtain ⟨ao, cap, S'⟩ := Rr_open.1 S
  have c0 := S'.cell 0 rfl 0
  have c1 := S'.cell 0 rfl 1
  simp only [List.getElem?_cons_zero, List.getElem?_cons_succ] at c0 c1
  go_enter Try.func53, Try.ntmps53
  go_wp2_with (go_at_call 54; refine (fail_any S 2).mono ?_; rintro e w' ⟨rfl, S2⟩)
  go_ret
  exact ⟨rfl, S2⟩

def Took (W0 : World) (L : List Asn) (p n : Nat) (bs : List Int) (e : Ending) (w' : World) : Prop :=
  ∃ ao c, e = .returned (.slice ao n c) ∧ Rd w' ao (bv (bs.take n)) ∧ (ao = none → c = 0) ∧ Sat W0 w' (Rr p (bs.drop n) 0 :: L)

set_option maxRecDepth 100000 in
theorem take_ok {W0 w : World} {L : List Asn} {p : Nat} {bs : List Int} (S : Sat W0 w (Rr p bs 0 :: L)) (n : Nat) (hn : n ≤ bs.length) (hn' : n ≤ 16777216) :
    Calls Try.prog 53 #[.pointer (some ⟨p, 0, none⟩), .int .i64 n] w (Took W0 L p n bs) := by
  obtain ⟨ao, cap, S'⟩ := Rr_open.1 S
  obtain ⟨hl1, hl2, hl3, hl4⟩ := (S'.bring 1).own_len
  unfold maxLen at hl3
  have c0 := S'.cell 0 rfl 0
  have c1 := S'.cell 0 rfl 1
  have f0 := S'.frozen 0 rfl 0
  simp only [List.getElem?_cons_zero, List.getElem?_cons_succ] at c0 c1
  cases ao with
  | none =>
    obtain ⟨h1, h2, h3, S2⟩ := Sat.own_none.1 (S'.bring 1)
    have hb0 : bs = [] := List.eq_nil_of_length_eq_zero h1
    subst hb0
    obtain rfl : n = 0 := by simpa using hn
    obtain rfl : cap = 0 := h2
    go_enter Try.func53, Try.ntmps53
    go_wp2_with fail
    go_ret
    refine ⟨none, 0, rfl, Rd.nil _ _, fun _ => rfl, Rr_open.2 ⟨none, 0, ?_⟩⟩
    have S3 := S2.setCell (k := 0) (v := .slice none 0 0) 0 rfl
    exact (Sat.own_none.2 ⟨rfl, rfl, rfl, S3⟩).swap
  | some a =>
    obtain ⟨b, pre, post, rfl, h1, h2, h3, h4, S2⟩ := Sat.own_some.1 S'.swap
    have hrd : ∀ v, Rd (w.setCell ⟨p, 0, none⟩ v) (some ⟨b, pre.length, none⟩) (bv (bs.take n)) := by
      intro v
      have hpb : p ≠ b := S2.ne [1, 0] rfl
      have h' := S'.swap.own_rd.take n
      intro j u hj
      refine ⟨b, pre.length, rfl, ?_⟩
      rw [World.cell?_setCell_other _ _ _ _ (fun e => hpb (congrArg Addr.block e))]
      exact h'.at (by simpa [bv] using hj)
    have e1 : pre ++ bv (bs.take n) ++ bv (bs.drop n) ++ post = pre ++ bv bs ++ post := by rw [List.append_assoc pre, ← bv_append, List.take_append_drop]
    by_cases hc : n = cap
    · subst hc
      have hbn : bs.length = n := by omega
      go_enter Try.func53, Try.ntmps53
      go_wp2_with fail
      go_ret
      refine ⟨some ⟨b, pre.length, none⟩, n, rfl, hrd _, (fun h => nomatch h), Rr_open.2 ⟨some ⟨b, pre.length, none⟩, 0, ?_⟩⟩
      have S3 := S2.setCell (k := 0) (v := (.slice (some ⟨b, pre.length, none⟩) 0 0)) 1 rfl
      have e2 : bs.drop n = [] := List.drop_eq_nil_of_le (by omega)
      rw [e2]
      exact ((Sat.own_some (e := 5) (size := 1)).2 ⟨b, pre, bv bs ++ post, rfl, rfl, by simp, by unfold maxLen; omega, by simp, by simpa [bv] using S3⟩).swap
    · go_enter Try.func53, Try.ntmps53
      go_wp2_with fail
      go_ret
      refine ⟨some ⟨b, pre.length, none⟩, cap, rfl, hrd _, (fun h => nomatch h), Rr_open.2 ⟨some ⟨b, pre.length + n, none⟩, cap - n, ?_⟩⟩
      have S3 := S2.setCell (k := 0) (v := (.slice (some ⟨b, pre.length + n, none⟩) (bs.length - n) (cap - n))) 1 rfl
      rw [List.length_drop]
      refine ((Sat.own_some (e := 5) (size := 1)).2 ⟨b, pre ++ bv (bs.take n), post, ?_, ?_, ?_, ?_, ?_, ?_⟩).swap
      · simp [bv_length]; omega
      · simp [bv_length]
      · omega
      · unfold maxLen; omega
      · omega
      · rw [e1]; exact S3
end Go.Proofs.Ytjdeeloemhjbhaa
