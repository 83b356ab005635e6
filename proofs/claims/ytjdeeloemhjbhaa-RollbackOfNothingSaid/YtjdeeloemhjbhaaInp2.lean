/-
  inputs: what is told.
-/
import Derived.Test.YtjdeeloemhjbhaaInp1
import Derived.Deep.LoopGhost
namespace Go.Proofs.Ytjdeeloemhjbhaa
open Go.RowKit Go.Sep Go.Inp

set_option maxRecDepth 100000 in
theorem qput_bad {W0 w : World} {L : List Asn} {p gb hb f o n : Nat} {pre post : List Value} {r : PRow} {j : Int}
    (S : Sat W0 w (RowL p gb hb n f pre post r L)) (ho : pre.length = o) (hof : OfIs p o j) (fr x : Int) (hbad : fr < 0 ∨ (n : Int) ≤ fr) :
    Calls Try.prog 21 #[.pointer (some ⟨p, 0, none⟩), .int .i64 j, .int .i64 fr, .int .u16 x] w fun e w' => e = .returned (.int .i64 1) ∧ w = w' := by
  obtain ⟨c0, c1, c2, fz⟩ := row_cells S ho
  by_cases hneg : fr < 0
  · go_enter Try.func21, Try.ntmps21
    go_wp2_with (go_at_call 30; refine (hof _).mono ?_; rintro e w1 ⟨rfl, rfl⟩)
    go_ret
    exact ⟨rfl, rfl⟩
  · have hge : (n : Int) ≤ fr := by omega
    clear hbad
    go_enter Try.func21, Try.ntmps21
    go_wp2_with (go_at_call 30; refine (hof _).mono ?_; rintro e w1 ⟨rfl, rfl⟩)
    go_ret
    exact ⟨rfl, rfl⟩

set_option maxRecDepth 100000 in
theorem qput_has {W0 w : World} {L : List Asn} {p gb hb f o n : Nat} {pre post : List Value} {r : PRow} {j : Int}
    (S : Sat W0 w (RowL p gb hb n f pre post r L)) (ho : pre.length = o) (hok : r.ok n) (hof : OfIs p o j) (q : Nat) (hq : q < n) (hk : isKn r q = true) (x : Int) :
    Calls Try.prog 21 #[.pointer (some ⟨p, 0, none⟩), .int .i64 j, .int .i64 q, .int .u16 x] w fun e w' => e = .returned (.int .i64 (hasErr (inAt r q) x)) ∧ w = w' := by
  obtain ⟨c0, c1, c2, fz⟩ := row_cells S ho
  have ck := kn_cell S (k := q) (by rw [hok.2]; exact hq)
  rw [hk] at ck
  have ci := in_cell S (k := q) (by rw [hok.1]; exact hq)
  clear hk
  by_cases hx : inAt r q = x
  · have hne : (inAt r q != x) = false := by simp [hx]
    have HR := Lib.hid (hasErr_eq hx)
    clear hx
    go_enter Try.func21, Try.ntmps21
    go_wp2_with (go_at_call 30; refine (hof _).mono ?_; rintro e w1 ⟨rfl, rfl⟩)
    go_ret
    exact ⟨by rw [HR.out]; rfl, rfl⟩
  · have hne : (inAt r q != x) = true := by simpa using hx
    have HR := Lib.hid (hasErr_ne hx)
    clear hx
    go_enter Try.func21, Try.ntmps21
    go_wp2_with (go_at_call 30; refine (hof _).mono ?_; rintro e w1 ⟨rfl, rfl⟩)
    go_ret
    exact ⟨by rw [HR.out]; rfl, rfl⟩

theorem front_set {W0 w : World} {L : List Asn} {p gb hb n f o : Nat} {pre post : List Value} {r : PRow} (S : Sat W0 w (RowL p gb hb n f pre post r L)) (ho : pre.length = o) :
    Sat W0 (w.setCell ⟨p, o + 2, none⟩ (.int .i64 ((f : Int) + 1))) (RowL p gb hb n (f + 1) pre post r L) := by
  have S2 := Sat.setCell S (k := o + 2) (v := .int .i64 ((f : Int) + 1)) 0 rfl
  have e : (pre ++ rowCells gb hb n f ++ post).set (o + 2) (.int .i64 ((f : Int) + 1)) = pre ++ rowCells gb hb n (f + 1) ++ post := by
    subst ho
    rw [List.append_assoc, List.set_append_right _ _ (by omega), show pre.length + 2 - pre.length = 2 by omega, List.append_assoc]
    rfl
  rw [e] at S2
  exact S2

set_option maxRecDepth 100000 in
theorem qput_new {W0 w : World} {L : List Asn} {p gb hb f o n : Nat} {pre post : List Value} {r : PRow} {j : Int}
    (S : Sat W0 w (RowL p gb hb n f pre post r L)) (ho : pre.length = o) (hok : r.ok n) (hn : n ≤ 600) (hf : f = lead r.kn) (hof : OfIs p o j) (q : Nat) (hq : q < n) (hk : isKn r q = false) (x : Int) :
    Calls Try.prog 21 #[.pointer (some ⟨p, 0, none⟩), .int .i64 j, .int .i64 q, .int .u16 x] w fun e w' => e = .returned (.int .i64 0) ∧
      Sat W0 w' (RowL p gb hb n (lead (r.kn.set q true)) pre post ⟨r.ins.set q x, r.kn.set q true⟩ L) := by
  obtain ⟨c0, c1, c2, fz⟩ := row_cells S ho
  have ck := kn_cell S (k := q) (by rw [hok.2]; exact hq)
  rw [hk] at ck
  have ci := in_cell S (k := q) (by rw [hok.1]; exact hq)
  have fi := S.frozen 1 rfl q
  have fk := S.frozen 2 rfl q
  have n1 : p ≠ gb := S.ne [0, 0] rfl
  have n2 : p ≠ hb := S.ne [0, 1] rfl
  have n3 : gb ≠ hb := S.ne [1, 1] rfl
  clear hk
  go_enter Try.func21, Try.ntmps21
  go_wp2_with (go_at_call 30; refine (hof _).mono ?_; rintro e w1 ⟨rfl, rfl⟩)
  go_region
  go_wp2
  have hkl : q < r.kn.length := by rw [hok.2]; exact hq
  have S2 := ((Sat.setCell S (k := q) (v := .int .u16 x) 1 rfl).setCell (k := q) (v := .bool true) 2 rfl).drew
  have S3 : Sat W0 ((w.setCell ⟨gb, q, none⟩ (.int .u16 x)).setCell ⟨hb, q, none⟩ (.bool true)).drew (RowL p gb hb n f pre post ⟨r.ins.set q x, r.kn.set q true⟩ L) := by
    have e1 : uv (r.ins.set q x) = (uv r.ins).set q (.int .u16 x) := by simp [uv, List.map_set]
    have e2 : kv (r.kn.set q true) = (kv r.kn).set q (.bool true) := by simp [kv, List.map_set]
    unfold RowL
    rw [e1, e2]
    exact S2
  clear S2
  have hok3 : PRow.ok ⟨r.ins.set q x, r.kn.set q true⟩ n := ⟨by simp [hok.1], by simp [hok.2]⟩
  have hfl : ∀ i, i < f → (r.kn.set q true)[i]? = some true := by
    intro i hi
    rw [List.getElem?_set]
    split
    · rename_i h; subst h; simp
    · exact lead_lt (by rw [← hf]; exact hi)
  have HFL := Lib.hid hfl
  obtain ⟨r2, hr2⟩ : ∃ r2, r2 = (⟨r.ins.set q x, r.kn.set q true⟩ : PRow) := ⟨_, rfl⟩
  have hkr : r2.kn = r.kn.set q true := by rw [hr2]
  rw [← hr2] at S3 hok3
  have HR2 := Lib.hid hr2
  have HKR := Lib.hid hkr
  clear hr2 hkr hfl c0 c1 c2 fz ck ci fi fk
  generalize ((w.setCell ⟨gb, q, none⟩ (.int .u16 x)).setCell ⟨hb, q, none⟩ (.bool true)).drew = w3 at *
  go_loopg [] (n - f) (fun k wr => ∃ fc : Nat, Sat W0 wr (RowL p gb hb n fc pre post r2 L) ∧ fc ≤ n ∧ Hid (∀ i, i < fc → r2.kn[i]? = some true) ∧ Hid (k = n - fc))
  case atStart => exact ⟨f, S3, by have := lead_le r.kn; rw [hok.2] at this; omega, by rw [HKR.out]; exact HFL.out, rfl⟩
  case round =>
    obtain ⟨fc, S4, hfn, HB, HN⟩ := hrel
    obtain ⟨c0, c1, c2, fz⟩ := row_cells S4 ho
    by_cases hlt : fc < n
    · have ck := kn_cell S4 (k := fc) (by rw [hok3.2]; exact hlt)
      cases hb2 : isKn r2 fc with
      | true =>
        rw [hb2] at ck
        have HT : Hid (r2.kn[fc]? = some true) := by
          show _ = _
          unfold isKn at hb2
          cases e : r2.kn[fc]? with
          | none => rw [e] at hb2; simp at hb2
          | some b => rw [e] at hb2; simp at hb2; rw [hb2]
        have HB' : Hid (∀ i, i < fc + 1 → r2.kn[i]? = some true) := by
          intro i hi
          rcases Nat.lt_succ_iff_lt_or_eq.1 hi with h | rfl
          · exact HB.out i h
          · exact HT.out
        clear hb2
        go_wp2_with fail
        go_quiet (fail)
        go_wp2
        go_roundg (n - (fc + 1))
        case measure => have := HN.out; omega
        case rel => exact ⟨fc + 1, front_set (S4.drewN _) ho, by omega, HB', rfl⟩
      | false =>
        rw [hb2] at ck
        have HL : Hid (lead r2.kn = fc) := by
          refine lead_eq HB.out ?_
          intro e
          unfold isKn at hb2
          rw [e] at hb2
          simp at hb2
        clear hb2
        go_wp2_with fail
        go_quiet (fail)
        go_wp2
        go_ret
        refine ⟨rfl, ?_⟩
        rw [← HR2.out, ← HKR.out, HL.out]
        exact S4.drewN _
    · have HL : Hid (lead r2.kn = fc) := by
        refine lead_eq HB.out ?_
        rw [List.getElem?_eq_none (by rw [hok3.2]; omega)]
        simp
      have hd : decide (fc < n) = false := by simpa using hlt
      clear hlt
      go_wp2_with fail
      go_quiet (fail)
      go_wp2
      go_ret
      refine ⟨rfl, ?_⟩
      rw [← HR2.out, ← HKR.out, HL.out]
      exact S4.drewN _
end Go.Proofs.Ytjdeeloemhjbhaa
