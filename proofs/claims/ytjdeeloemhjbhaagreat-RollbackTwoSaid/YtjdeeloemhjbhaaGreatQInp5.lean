/-
  InpP, Inp1, Inp2, Inp3, Inp4, Inp5 in one text (wip/tools/squeeze.py)
-/
import Derived.WalkKit
import Derived.Test.YtjdeeloemhjbhaaGreatRows
import Derived.Deep.QuietTactic
import Derived.BigQuiet
import Derived.BigRegion
import Derived.Deep.RegionWith
import Derived.Deep.RegionLaw
import Derived.Deep.LoopGhost
import Derived.Laws.MakeOwn
import Derived.Deep.RegionHeld3
import Derived.Test.YtjdeeloemhjbhaaGreatArgs

section
namespace Go.Inp
open Go.RowKit

structure PRow where
  ins : List Int
  kn : List Bool

def PRow.ok (r : PRow) (n : Nat) : Prop := r.ins.length = n ∧ r.kn.length = n

def lead : List Bool → Nat
  | true :: r => lead r + 1
  | _ => 0

def isKn (r : PRow) (k : Nat) : Bool := r.kn[k]?.getD false
def inAt (r : PRow) (k : Nat) : Int := r.ins[k]?.getD 0

def hasErr (a x : Int) : Int := if a = x then 8 else 18
theorem hasErr_eq {a x : Int} (h : a = x) : hasErr a x = 8 := if_pos h
theorem hasErr_ne {a x : Int} (h : ¬ a = x) : hasErr a x = 18 := if_neg h

def putR (n : Nat) (r : PRow) (fr : Int) (x : Int) : Int × PRow :=
  if fr < 0 ∨ (n : Int) ≤ fr then (1, r) else
  if isKn r fr.toNat = true then (hasErr (inAt r fr.toNat) x, r)
  else (0, ⟨r.ins.set fr.toNat x, r.kn.set fr.toNat true⟩)

def guess (r : PRow) : Nat → Int
  | 0 => 0
  | k + 1 => if isKn r k = true then inAt r k else guess r k

def getR (n : Nat) (r : PRow) (fr : Int) : Int × Bool :=
  if fr < 0 then (0, false) else
  if fr < n ∧ isKn r fr.toNat = true then (inAt r fr.toNat, true) else (guess r (min fr.toNat n), false)

theorem putR_ok {n : Nat} {r : PRow} (h : r.ok n) (fr x : Int) : (putR n r fr x).2.ok n := by
  unfold putR
  split
  · exact h
  · split
    · exact h
    · exact ⟨by simp [h.1], by simp [h.2]⟩

/-- what is known of both -/
structure PQ where
  n : Nat
  r0 : PRow
  r1 : PRow
def PQ.ok (q : PQ) : Prop := q.n ≤ 600 ∧ q.r0.ok q.n ∧ q.r1.ok q.n
def PQ.new (n : Nat) : PQ := ⟨n, ⟨List.replicate n 0, List.replicate n false⟩, ⟨List.replicate n 0, List.replicate n false⟩⟩
def PQ.put (q : PQ) (j fr x : Int) : Int × PQ :=
  if j = 0 then ((putR q.n q.r0 fr x).1, { q with r0 := (putR q.n q.r0 fr x).2 })
  else if j = 1 then ((putR q.n q.r1 fr x).1, { q with r1 := (putR q.n q.r1 fr x).2 })
  else (1, q)
def PQ.get (q : PQ) (j fr : Int) : Int × Bool := if j = 0 then getR q.n q.r0 fr else if j = 1 then getR q.n q.r1 fr else (0, false)
def PQ.known (q : PQ) (j : Int) : Nat := if j = 0 then lead q.r0.kn else if j = 1 then lead q.r1.kn else 0
def PQ.both (q : PQ) : Nat := min (lead q.r0.kn) (lead q.r1.kn)
def PQ.pairs (q : PQ) : List (Int × Int) := (List.range q.both).map fun i => (inAt q.r0 i, inAt q.r1 i)
theorem PQ.put_ok {q : PQ} (h : q.ok) (j fr x : Int) : (q.put j fr x).2.ok := by
  unfold PQ.put
  split
  · exact ⟨h.1, putR_ok h.2.1 _ _, h.2.2⟩
  · split
    · exact ⟨h.1, h.2.1, putR_ok h.2.2 _ _⟩
    · exact h
theorem PQ.new_ok {n : Nat} (h : n ≤ 600) : (PQ.new n).ok := ⟨h, ⟨by simp [PQ.new], by simp [PQ.new]⟩, by simp [PQ.new], by simp [PQ.new]⟩

theorem lead_le : ∀ l : List Bool, lead l ≤ l.length
  | [] => Nat.le_refl _
  | true :: r => by have := lead_le r; simp only [lead, List.length_cons]; omega
  | false :: r => by simp [lead]
theorem lead_lt : ∀ {l : List Bool} {k : Nat}, k < lead l → l[k]? = some true
  | [], k, h => by simp [lead] at h
  | true :: r, 0, _ => rfl
  | true :: r, k + 1, h => by simp only [lead] at h; exact lead_lt (l := r) (by omega)
  | false :: r, k, h => by simp [lead] at h
theorem lead_at : ∀ {l : List Bool}, l[lead l]? ≠ some true
  | [] => by simp [lead]
  | true :: r => by simp only [lead]; exact lead_at (l := r)
  | false :: r => by simp [lead]
theorem lead_eq {l : List Bool} {k : Nat} (h1 : ∀ i, i < k → l[i]? = some true) (h2 : l[k]? ≠ some true) : lead l = k := by
  rcases Nat.lt_trichotomy (lead l) k with h | h | h
  · exact absurd (h1 _ h) lead_at
  · exact h
  · exact absurd (lead_lt h) h2
end Go.Inp
end

section
namespace Go.Proofs.YtjdeeloemhjbhaaGreat
open Go.RowKit Go.Sep Go.Inp

def uv (xs : List Int) : List Value := xs.map (Value.int .u16)
def kv (xs : List Bool) : List Value := xs.map Value.bool

/-- the row of one player, at a place of the block p: what stands there, and the two lists -/
def rowCells (gb hb n f : Nat) : List Value := [.slice (some ⟨gb, 0, none⟩) n n, .slice (some ⟨hb, 0, none⟩) n n, .int .i64 f]

theorem row_cells {W0 w : World} {L : List Asn} {p gb hb n f o : Nat} {pre post : List Value} {e : TypeId} (S : Sat W0 w (blk p (pre ++ rowCells gb hb n f ++ post) e :: L)) (ho : pre.length = o) :
    w.cell? ⟨p, o, none⟩ = some (.slice (some ⟨gb, 0, none⟩) n n) ∧ w.cell? ⟨p, o + 1, none⟩ = some (.slice (some ⟨hb, 0, none⟩) n n) ∧ w.cell? ⟨p, o + 2, none⟩ = some (.int .i64 f) ∧ ∀ k, w.frozen? ⟨p, k, none⟩ = false := by
  subst ho
  refine ⟨?_, ?_, ?_, fun k => S.frozen 0 rfl k⟩
  all_goals
    rw [S.cell 0 rfl, List.append_assoc, List.getElem?_append_right (by omega)]
    simp [rowCells]

/-- the call of 'of' comes to the row at that place -/
def OfIs (p o : Nat) (j : Int) : Prop := ∀ w, Calls Tryz.prog 51 #[.pointer (some ⟨p, 0, none⟩), .int .i64 j] w fun e w' => e = .returned (.pointer (some ⟨p, o, none⟩)) ∧ w = w'

set_option maxRecDepth 100000 in
theorem of_0 (p : Nat) : OfIs p 0 0 := by
  intro w
  go_enter Tryz.func51, Tryz.ntmps51
  go_wp2_with fail
  go_ret
  exact ⟨rfl, rfl⟩
set_option maxRecDepth 100000 in
theorem of_1 (p : Nat) : OfIs p 3 1 := by
  intro w
  go_enter Tryz.func51, Tryz.ntmps51
  go_wp2_with fail
  go_ret
  exact ⟨rfl, rfl⟩
set_option maxRecDepth 100000 in
theorem of_out (p : Nat) {j : Int} (h : j < 0 ∨ 1 < j) (w : World) : Calls Tryz.prog 51 #[.pointer (some ⟨p, 0, none⟩), .int .i64 j] w fun e w' => e = .returned (.pointer none) ∧ w = w' := by
  rcases h with h | h
  all_goals
    go_enter Tryz.func51, Tryz.ntmps51
    go_wp2_with fail
    go_ret
    exact ⟨rfl, rfl⟩
set_option maxRecDepth 100000 in
theorem of_nil (j : Int) (w : World) : Calls Tryz.prog 51 #[.pointer none, .int .i64 j] w fun e w' => e = .returned (.pointer none) ∧ w = w' := by
  go_enter Tryz.func51, Tryz.ntmps51
  go_wp2_with fail
  go_ret
  exact ⟨rfl, rfl⟩

/-- the assertions that tell one row of a Queue at place o of the block p -/
def RowL (p gb hb n f : Nat) (pre post : List Value) (r : PRow) (L : List Asn) : List Asn :=
  blk p (pre ++ rowCells gb hb n f ++ post) 101 :: blk gb (uv r.ins) 38 :: blk hb (kv r.kn) 4 :: L

theorem kn_cell {W0 w : World} {L : List Asn} {p gb hb n f : Nat} {pre post : List Value} {r : PRow} (S : Sat W0 w (RowL p gb hb n f pre post r L)) {k : Nat} (hk : k < r.kn.length) : w.cell? ⟨hb, k, none⟩ = some (.bool (isKn r k)) := by
  rw [Sat.cell S 2 rfl]; unfold isKn; simp [kv, List.getElem?_eq_getElem hk]
theorem in_cell {W0 w : World} {L : List Asn} {p gb hb n f : Nat} {pre post : List Value} {r : PRow} (S : Sat W0 w (RowL p gb hb n f pre post r L)) {k : Nat} (hk : k < r.ins.length) : w.cell? ⟨gb, k, none⟩ = some (.int .u16 (inAt r k)) := by
  rw [Sat.cell S 1 rfl]; unfold inAt; simp [uv, List.getElem?_eq_getElem hk]

set_option maxRecDepth 100000 in
theorem qget_row {W0 w : World} {L : List Asn} {p gb hb f o n : Nat} {pre post : List Value} {r : PRow} {j : Int}
    (S : Sat W0 w (RowL p gb hb n f pre post r L)) (ho : pre.length = o) (hok : r.ok n) (hn : n ≤ 600) (hof : OfIs p o j) (fr : Int) :
    Calls Tryz.prog 80 #[.pointer (some ⟨p, 0, none⟩), .int .i64 j, .int .i64 fr] w fun e w' => e = .returned (.tuple #[.int .u16 (getR n r fr).1, .bool (getR n r fr).2]) ∧ w = w' := by
  obtain ⟨c0, c1, c2, fz⟩ := row_cells S ho
  by_cases hneg : fr < 0
  · have HG : Hid (getR n r fr = (0, false)) := by show _ = _; unfold getR; rw [if_pos hneg]
    go_enter Tryz.func80, Tryz.ntmps80
    go_wp2_with (go_at_call 51; refine (hof _).mono ?_; rintro e w1 ⟨rfl, rfl⟩)
    go_ret2
    exact ⟨by rw [HG.out]; rfl, rfl⟩
  · obtain ⟨q, rfl⟩ := Int.eq_ofNat_of_zero_le (show 0 ≤ fr by omega)
    by_cases hk : q < n ∧ isKn r q = true
    · have HG : Hid (getR n r q = (inAt r q, true)) := by show _ = _; unfold getR; rw [if_neg hneg, if_pos ⟨by omega, hk.2⟩]; rfl
      have ck := kn_cell S (k := q) (by rw [hok.2]; exact hk.1)
      rw [hk.2] at ck
      have ci := in_cell S (k := q) (by rw [hok.1]; exact hk.1)
      have hq := hk.1
      clear hk
      go_enter Tryz.func80, Tryz.ntmps80
      go_wp2_with (go_at_call 51; refine (hof _).mono ?_; rintro e w1 ⟨rfl, rfl⟩)
      go_ret2
      exact ⟨by rw [HG.out]; rfl, rfl⟩
    · have HG : Hid (getR n r q = (guess r (min q n), false)) := by show _ = _; unfold getR; rw [if_neg hneg, if_neg (fun h => hk ⟨by omega, h.2⟩)]; rfl
      have hun : n ≤ q ∨ (q < n ∧ w.cell? ⟨hb, q, none⟩ = some (.bool false)) := by
        by_cases hq : q < n
        · refine .inr ⟨hq, ?_⟩
          rw [kn_cell S (by rw [hok.2]; exact hq), show isKn r q = false by cases hh : isKn r q; rfl; exact absurd ⟨hq, hh⟩ hk]
        · exact .inl (by omega)
      clear hk
      have hmin : (n ≤ q → min q n = n) ∧ (q < n → min q n = q) := ⟨fun _ => by omega, fun _ => by omega⟩
      rcases hun with hq | ⟨hq, ck⟩
      all_goals
        first | (rw [hmin.1 hq] at HG; have hmi : min (q : Int) (n : Int) = (n : Int) := by omega) | (rw [hmin.2 hq] at HG; have hmi : min (q : Int) (n : Int) = (q : Int) := by omega)
        clear hmin
        go_enter Tryz.func80, Tryz.ntmps80
        go_wp2_with (go_at_call 51; refine (hof _).mono ?_; rintro e w1 ⟨rfl, rfl⟩)
        all_goals
          go_loop [9] (fun i => ∃ z : Int, ∃ k : Nat, i = .int .i64 z ∧ Hid (z = k - 1) ∧ k ≤ n ∧ Hid (getR n r q = (guess r k, false))) (fun i => (intOf i + 1).toNat)
          case atStart => first | exact ⟨_, _, rfl, rfl, by omega, HG⟩ | exact ⟨_, q, rfl, rfl, by omega, (show q = n by omega) ▸ HG⟩
          case round =>
            obtain ⟨z, k, rfl, hz, hkn, HK⟩ := hrel
            cases k with
            | zero =>
              obtain rfl : z = -1 := by have := hz.out; omega
              go_wp2
              go_ret2
              exact ⟨by rw [HK.out]; rfl, rfl⟩
            | succ k =>
              obtain rfl : z = (k : Int) := by have := hz.out; omega
              have ck2 := kn_cell S (k := k) (by rw [hok.2]; omega)
              have ci2 := in_cell S (k := k) (by rw [hok.1]; omega)
              by_cases hkk : isKn r k = true
              · rw [hkk] at ck2
                have HK2 : Hid (getR n r q = (inAt r k, false)) := by show _ = _; rw [HK.out, guess, if_pos hkk]
                clear hkk
                go_wp2
                go_ret2
                exact ⟨by rw [HK2.out]; rfl, rfl⟩
              · have hkf : isKn r k = false := by cases hh : isKn r k; rfl; exact absurd hh hkk
                rw [hkf] at ck2
                have HK2 : Hid (getR n r q = (guess r k, false)) := by show _ = _; rw [HK.out, guess, if_neg hkk]
                clear hkk hkf
                go_wp2
                go_round
                case rel => exact ⟨_, k, rfl, rfl, by omega, HK2⟩
                case measure => simp [intOf]
end Go.Proofs.YtjdeeloemhjbhaaGreat
end

section
namespace Go.Proofs.YtjdeeloemhjbhaaGreat
open Go.RowKit Go.Sep Go.Inp

set_option maxRecDepth 100000 in
theorem qput_bad {W0 w : World} {L : List Asn} {p gb hb f o n : Nat} {pre post : List Value} {r : PRow} {j : Int}
    (S : Sat W0 w (RowL p gb hb n f pre post r L)) (ho : pre.length = o) (hof : OfIs p o j) (fr x : Int) (hbad : fr < 0 ∨ (n : Int) ≤ fr) :
    Calls Tryz.prog 33 #[.pointer (some ⟨p, 0, none⟩), .int .i64 j, .int .i64 fr, .int .u16 x] w fun e w' => e = .returned (.int .i64 1) ∧ w = w' := by
  obtain ⟨c0, c1, c2, fz⟩ := row_cells S ho
  by_cases hneg : fr < 0
  · go_enter Tryz.func33, Tryz.ntmps33
    go_wp2_with (go_at_call 51; refine (hof _).mono ?_; rintro e w1 ⟨rfl, rfl⟩)
    go_ret
    exact ⟨rfl, rfl⟩
  · have hge : (n : Int) ≤ fr := by omega
    clear hbad
    go_enter Tryz.func33, Tryz.ntmps33
    go_wp2_with (go_at_call 51; refine (hof _).mono ?_; rintro e w1 ⟨rfl, rfl⟩)
    go_ret
    exact ⟨rfl, rfl⟩

set_option maxRecDepth 100000 in
theorem qput_has {W0 w : World} {L : List Asn} {p gb hb f o n : Nat} {pre post : List Value} {r : PRow} {j : Int}
    (S : Sat W0 w (RowL p gb hb n f pre post r L)) (ho : pre.length = o) (hok : r.ok n) (hof : OfIs p o j) (q : Nat) (hq : q < n) (hk : isKn r q = true) (x : Int) :
    Calls Tryz.prog 33 #[.pointer (some ⟨p, 0, none⟩), .int .i64 j, .int .i64 q, .int .u16 x] w fun e w' => e = .returned (.int .i64 (hasErr (inAt r q) x)) ∧ w = w' := by
  obtain ⟨c0, c1, c2, fz⟩ := row_cells S ho
  have ck := kn_cell S (k := q) (by rw [hok.2]; exact hq)
  rw [hk] at ck
  have ci := in_cell S (k := q) (by rw [hok.1]; exact hq)
  clear hk
  by_cases hx : inAt r q = x
  · have hne : (inAt r q != x) = false := by simp [hx]
    have HR := Lib.hid (hasErr_eq hx)
    clear hx
    go_enter Tryz.func33, Tryz.ntmps33
    go_wp2_with (go_at_call 51; refine (hof _).mono ?_; rintro e w1 ⟨rfl, rfl⟩)
    go_ret
    exact ⟨by rw [HR.out]; rfl, rfl⟩
  · have hne : (inAt r q != x) = true := by simpa using hx
    have HR := Lib.hid (hasErr_ne hx)
    clear hx
    go_enter Tryz.func33, Tryz.ntmps33
    go_wp2_with (go_at_call 51; refine (hof _).mono ?_; rintro e w1 ⟨rfl, rfl⟩)
    go_ret
    exact ⟨by rw [HR.out]; rfl, rfl⟩

theorem front_set {W0 w : World} {L : List Asn} {p gb hb n f o : Nat} {pre post : List Value} {r : PRow} (S : Sat W0 w (RowL p gb hb n f pre post r L)) (ho : pre.length = o) :
    Sat W0 (w.setCell ⟨p, o + 2, none⟩ (.int .i64 ((f : Int) + 1))) (RowL p gb hb n (f + 1) pre post r L) := by
  have S2 := Sat.setCell S (k := o + 2) (v := .int .i64 ((f : Int) + 1)) 0 rfl
  have e : (pre ++ rowCells gb hb n f ++ post).set (o + 2) (.int .i64 ((f : Int) + 1)) = pre ++ rowCells gb hb n (f + 1) ++ post := by
    subst ho
    rw [List.append_assoc, List.set_append_right _ _ (by omega), show pre.length + 2 - pre.length = 2 by omega, List.append_assoc]
    rfl
  rw [e] at S2
  exact S2

set_option maxRecDepth 100000 in
theorem qput_new {W0 w : World} {L : List Asn} {p gb hb f o n : Nat} {pre post : List Value} {r : PRow} {j : Int}
    (S : Sat W0 w (RowL p gb hb n f pre post r L)) (ho : pre.length = o) (hok : r.ok n) (hn : n ≤ 600) (hf : f = lead r.kn) (hof : OfIs p o j) (q : Nat) (hq : q < n) (hk : isKn r q = false) (x : Int) :
    Calls Tryz.prog 33 #[.pointer (some ⟨p, 0, none⟩), .int .i64 j, .int .i64 q, .int .u16 x] w fun e w' => e = .returned (.int .i64 0) ∧
      Sat W0 w' (RowL p gb hb n (lead (r.kn.set q true)) pre post ⟨r.ins.set q x, r.kn.set q true⟩ L) := by
  obtain ⟨c0, c1, c2, fz⟩ := row_cells S ho
  have ck := kn_cell S (k := q) (by rw [hok.2]; exact hq)
  rw [hk] at ck
  have ci := in_cell S (k := q) (by rw [hok.1]; exact hq)
  have fi := S.frozen 1 rfl q
  have fk := S.frozen 2 rfl q
  have n1 : p ≠ gb := S.ne [0, 0] rfl
  have n2 : p ≠ hb := S.ne [0, 1] rfl
  have n3 : gb ≠ hb := S.ne [1, 1] rfl
  clear hk
  go_enter Tryz.func33, Tryz.ntmps33
  go_wp2_with (go_at_call 51; refine (hof _).mono ?_; rintro e w1 ⟨rfl, rfl⟩)
  go_region
  go_wp2
  have hkl : q < r.kn.length := by rw [hok.2]; exact hq
  have S2 := ((Sat.setCell S (k := q) (v := .int .u16 x) 1 rfl).setCell (k := q) (v := .bool true) 2 rfl).drew
  have S3 : Sat W0 ((w.setCell ⟨gb, q, none⟩ (.int .u16 x)).setCell ⟨hb, q, none⟩ (.bool true)).drew (RowL p gb hb n f pre post ⟨r.ins.set q x, r.kn.set q true⟩ L) := by
    have e1 : uv (r.ins.set q x) = (uv r.ins).set q (.int .u16 x) := by simp [uv, List.map_set]
    have e2 : kv (r.kn.set q true) = (kv r.kn).set q (.bool true) := by simp [kv, List.map_set]
    unfold RowL
    rw [e1, e2]
    exact S2
  clear S2
  have hok3 : PRow.ok ⟨r.ins.set q x, r.kn.set q true⟩ n := ⟨by simp [hok.1], by simp [hok.2]⟩
  have hfl : ∀ i, i < f → (r.kn.set q true)[i]? = some true := by
    intro i hi
    rw [List.getElem?_set]
    split
    · rename_i h; subst h; simp
    · exact lead_lt (by rw [← hf]; exact hi)
  have HFL := Lib.hid hfl
  obtain ⟨r2, hr2⟩ : ∃ r2, r2 = (⟨r.ins.set q x, r.kn.set q true⟩ : PRow) := ⟨_, rfl⟩
  have hkr : r2.kn = r.kn.set q true := by rw [hr2]
  rw [← hr2] at S3 hok3
  have HR2 := Lib.hid hr2
  have HKR := Lib.hid hkr
  clear hr2 hkr hfl c0 c1 c2 fz ck ci fi fk
  generalize ((w.setCell ⟨gb, q, none⟩ (.int .u16 x)).setCell ⟨hb, q, none⟩ (.bool true)).drew = w3 at *
  go_loopg [] (n - f) (fun k wr => ∃ fc : Nat, Sat W0 wr (RowL p gb hb n fc pre post r2 L) ∧ fc ≤ n ∧ Hid (∀ i, i < fc → r2.kn[i]? = some true) ∧ Hid (k = n - fc))
  case atStart => exact ⟨f, S3, by have := lead_le r.kn; rw [hok.2] at this; omega, by rw [HKR.out]; exact HFL.out, rfl⟩
  case round =>
    obtain ⟨fc, S4, hfn, HB, HN⟩ := hrel
    obtain ⟨c0, c1, c2, fz⟩ := row_cells S4 ho
    by_cases hlt : fc < n
    · have ck := kn_cell S4 (k := fc) (by rw [hok3.2]; exact hlt)
      cases hb2 : isKn r2 fc with
      | true =>
        rw [hb2] at ck
        have HT : Hid (r2.kn[fc]? = some true) := by
          show _ = _
          unfold isKn at hb2
          cases e : r2.kn[fc]? with
          | none => rw [e] at hb2; simp at hb2
          | some b => rw [e] at hb2; simp at hb2; rw [hb2]
        have HB' : Hid (∀ i, i < fc + 1 → r2.kn[i]? = some true) := by
          intro i hi
          rcases Nat.lt_succ_iff_lt_or_eq.1 hi with h | rfl
          · exact HB.out i h
          · exact HT.out
        clear hb2
        go_wp2_with fail
        go_quiet (fail)
        go_wp2
        go_roundg (n - (fc + 1))
        case measure => have := HN.out; omega
        case rel => exact ⟨fc + 1, front_set (S4.drewN _) ho, by omega, HB', rfl⟩
      | false =>
        rw [hb2] at ck
        have HL : Hid (lead r2.kn = fc) := by
          refine lead_eq HB.out ?_
          intro e
          unfold isKn at hb2
          rw [e] at hb2
          simp at hb2
        clear hb2
        go_wp2_with fail
        go_quiet (fail)
        go_wp2
        go_ret
        refine ⟨rfl, ?_⟩
        rw [← HR2.out, ← HKR.out, HL.out]
        exact S4.drewN _
    · have HL : Hid (lead r2.kn = fc) := by
        refine lead_eq HB.out ?_
        rw [List.getElem?_eq_none (by rw [hok3.2]; omega)]
        simp
      have hd : decide (fc < n) = false := by simpa using hlt
      clear hlt
      go_wp2_with fail
      go_quiet (fail)
      go_wp2
      go_ret
      refine ⟨rfl, ?_⟩
      rw [← HR2.out, ← HKR.out, HL.out]
      exact S4.drewN _
end Go.Proofs.YtjdeeloemhjbhaaGreat
end

section
namespace Go.Proofs.YtjdeeloemhjbhaaGreat
open Go.RowKit Go.Sep Go.Inp

theorem qput_row {W0 w : World} {L : List Asn} {p gb hb f o n : Nat} {pre post : List Value} {r : PRow} {j : Int}
    (S : Sat W0 w (RowL p gb hb n f pre post r L)) (ho : pre.length = o) (hok : r.ok n) (hn : n ≤ 600) (hf : f = lead r.kn) (hof : OfIs p o j) (fr x : Int) :
    Calls Tryz.prog 33 #[.pointer (some ⟨p, 0, none⟩), .int .i64 j, .int .i64 fr, .int .u16 x] w fun e w' => e = .returned (.int .i64 (putR n r fr x).1) ∧
      Sat W0 w' (RowL p gb hb n (lead (putR n r fr x).2.kn) pre post (putR n r fr x).2 L) := by
  by_cases hbad : fr < 0 ∨ (n : Int) ≤ fr
  · have e : putR n r fr x = (1, r) := by unfold putR; rw [if_pos hbad]
    refine (qput_bad S ho hof fr x hbad).mono ?_
    rintro e' w' ⟨rfl, rfl⟩
    rw [e]
    exact ⟨rfl, by rw [← hf]; exact S⟩
  · obtain ⟨q, rfl⟩ := Int.eq_ofNat_of_zero_le (show 0 ≤ fr by omega)
    have hq : q < n := by omega
    cases hk : isKn r q with
    | true =>
      have e : putR n r q x = (hasErr (inAt r q) x, r) := by unfold putR; rw [if_neg hbad, Int.toNat_natCast, if_pos hk]
      refine (qput_has S ho hok hof q hq hk x).mono ?_
      rintro e' w' ⟨rfl, rfl⟩
      rw [e]
      exact ⟨rfl, by rw [← hf]; exact S⟩
    | false =>
      have e : putR n r q x = (0, ⟨r.ins.set q x, r.kn.set q true⟩) := by unfold putR; rw [if_neg hbad, Int.toNat_natCast, if_neg (by rw [hk]; simp)]
      refine (qput_new S ho hok hn hf hof q hq hk x).mono ?_
      rintro e' w' ⟨rfl, S2⟩
      rw [e]
      exact ⟨rfl, S2⟩

def quL (p : Nat) (q : PQ) (x : Nat × Nat × Nat × Nat) : List Asn :=
  [blk p (rowCells x.1 x.2.1 q.n (lead q.r0.kn) ++ rowCells x.2.2.1 x.2.2.2 q.n (lead q.r1.kn)) 101, blk x.1 (uv q.r0.ins) 38, blk x.2.1 (kv q.r0.kn) 4, blk x.2.2.1 (uv q.r1.ins) 38, blk x.2.2.2 (kv q.r1.kn) 4]
/-- a Queue at p -/
def Qu (p : Nat) (q : PQ) : Asn := exA fun x => all (quL p q x)

theorem Qu_open {W0 w : World} {L : List Asn} {p : Nat} {q : PQ} : Sat W0 w (Qu p q :: L) ↔ ∃ x, Sat W0 w (quL p q x ++ L) := by
  unfold Qu
  rw [Sat.ex]
  exact exists_congr fun x => Sat.flat

def Putted (W0 : World) (L : List Asn) (p : Nat) (q : PQ) (j fr x : Int) (e : Ending) (w' : World) : Prop :=
  e = .returned (.int .i64 (q.put j fr x).1) ∧ Sat W0 w' (Qu p (q.put j fr x).2 :: L)

set_option maxRecDepth 100000 in
theorem qput_out {p : Nat} {j : Int} (h : j < 0 ∨ 1 < j) (fr x : Int) (w : World) :
    Calls Tryz.prog 33 #[.pointer (some ⟨p, 0, none⟩), .int .i64 j, .int .i64 fr, .int .u16 x] w fun e w' => e = .returned (.int .i64 1) ∧ w = w' := by
  go_enter Tryz.func33, Tryz.ntmps33
  go_wp2_with (go_at_call 51; refine (of_out p h _).mono ?_; rintro e w1 ⟨rfl, rfl⟩)
  go_ret
  exact ⟨rfl, rfl⟩

theorem qput_any {W0 w : World} {L : List Asn} {p : Nat} {q : PQ} (S : Sat W0 w (Qu p q :: L)) (hq : q.ok) (j fr x : Int) :
    Calls Tryz.prog 33 #[.pointer (some ⟨p, 0, none⟩), .int .i64 j, .int .i64 fr, .int .u16 x] w (Putted W0 L p q j fr x) := by
  obtain ⟨⟨g0, h0, g1, h1⟩, S1⟩ := Qu_open.1 S
  by_cases j0 : j = 0
  · subst j0
    have e : q.put 0 fr x = ((putR q.n q.r0 fr x).1, { q with r0 := (putR q.n q.r0 fr x).2 }) := by unfold PQ.put; rw [if_pos rfl]
    refine (qput_row (pre := []) (post := rowCells g1 h1 q.n (lead q.r1.kn)) (L := [blk g1 (uv q.r1.ins) 38, blk h1 (kv q.r1.kn) 4] ++ L) S1 rfl hq.2.1 hq.1 rfl (of_0 p) fr x).mono ?_
    rintro e' w' ⟨rfl, S2⟩
    unfold Putted
    rw [e]
    exact ⟨rfl, Qu_open.2 ⟨(g0, h0, g1, h1), S2⟩⟩
  · by_cases j1 : j = 1
    · subst j1
      have e : q.put 1 fr x = ((putR q.n q.r1 fr x).1, { q with r1 := (putR q.n q.r1 fr x).2 }) := by unfold PQ.put; rw [if_neg (by decide), if_pos rfl]
      refine (qput_row (pre := rowCells g0 h0 q.n (lead q.r0.kn)) (post := []) (L := [blk g0 (uv q.r0.ins) 38, blk h0 (kv q.r0.kn) 4] ++ L) (S1.sel [0, 2, 2]) rfl hq.2.2 hq.1 rfl (of_1 p) fr x).mono ?_
      rintro e' w' ⟨rfl, S2⟩
      unfold Putted
      rw [e]
      exact ⟨rfl, Qu_open.2 ⟨(g0, h0, g1, h1), S2.sel [0, 2, 2]⟩⟩
    · have e : q.put j fr x = (1, q) := by unfold PQ.put; rw [if_neg j0, if_neg j1]
      refine (qput_out (by omega) fr x w).mono ?_
      rintro e' w' ⟨rfl, rfl⟩
      unfold Putted
      rw [e]
      exact ⟨rfl, S⟩

set_option maxRecDepth 100000 in
theorem qget_out {p : Nat} {j : Int} (h : j < 0 ∨ 1 < j) (fr : Int) (w : World) :
    Calls Tryz.prog 80 #[.pointer (some ⟨p, 0, none⟩), .int .i64 j, .int .i64 fr] w fun e w' => e = .returned (.tuple #[.int .u16 0, .bool false]) ∧ w = w' := by
  go_enter Tryz.func80, Tryz.ntmps80
  go_wp2_with (go_at_call 51; refine (of_out p h _).mono ?_; rintro e w1 ⟨rfl, rfl⟩)
  go_ret2
  exact ⟨rfl, rfl⟩

theorem qget_any {W0 w : World} {L : List Asn} {p : Nat} {q : PQ} (S : Sat W0 w (Qu p q :: L)) (hq : q.ok) (j fr : Int) :
    Calls Tryz.prog 80 #[.pointer (some ⟨p, 0, none⟩), .int .i64 j, .int .i64 fr] w fun e w' => e = .returned (.tuple #[.int .u16 (q.get j fr).1, .bool (q.get j fr).2]) ∧ w = w' := by
  obtain ⟨⟨g0, h0, g1, h1⟩, S1⟩ := Qu_open.1 S
  by_cases j0 : j = 0
  · subst j0
    have e : q.get 0 fr = getR q.n q.r0 fr := by unfold PQ.get; rw [if_pos rfl]
    rw [e]
    exact qget_row (pre := []) (post := rowCells g1 h1 q.n (lead q.r1.kn)) (L := [blk g1 (uv q.r1.ins) 38, blk h1 (kv q.r1.kn) 4] ++ L) S1 rfl hq.2.1 hq.1 (of_0 p) fr
  · by_cases j1 : j = 1
    · subst j1
      have e : q.get 1 fr = getR q.n q.r1 fr := by unfold PQ.get; rw [if_neg (by decide), if_pos rfl]
      rw [e]
      exact qget_row (pre := rowCells g0 h0 q.n (lead q.r0.kn)) (post := []) (L := [blk g0 (uv q.r0.ins) 38, blk h0 (kv q.r0.kn) 4] ++ L) (S1.sel [0, 2, 2]) rfl hq.2.2 hq.1 (of_1 p) fr
    · have e : q.get j fr = (0, false) := by unfold PQ.get; rw [if_neg j0, if_neg j1]
      rw [e]
      exact qget_out (by omega) fr w

set_option maxRecDepth 100000 in
theorem qknown_any {W0 w : World} {L : List Asn} {p : Nat} {q : PQ} (S : Sat W0 w (Qu p q :: L)) (j : Int) :
    Calls Tryz.prog 42 #[.pointer (some ⟨p, 0, none⟩), .int .i64 j] w fun e w' => e = .returned (.int .i64 (q.known j)) ∧ w = w' := by
  obtain ⟨⟨g0, h0, g1, h1⟩, S1⟩ := Qu_open.1 S
  by_cases j0 : j = 0
  · subst j0
    have HE : Hid (q.known 0 = lead q.r0.kn) := by show _ = _; unfold PQ.known; rw [if_pos rfl]
    have c2 : w.cell? ⟨p, 0 + 2, none⟩ = some (.int .i64 (lead q.r0.kn)) := (row_cells (pre := []) (post := rowCells g1 h1 q.n (lead q.r1.kn)) (o := 0) S1 rfl).2.2.1
    rw [Nat.zero_add] at c2
    go_enter Tryz.func42, Tryz.ntmps42
    go_wp2_with (go_at_call 51; refine (of_0 p _).mono ?_; rintro e w1 ⟨rfl, rfl⟩)
    go_ret
    exact ⟨by rw [HE.out]; rfl, rfl⟩
  · by_cases j1 : j = 1
    · subst j1
      have HE : Hid (q.known 1 = lead q.r1.kn) := by show _ = _; unfold PQ.known; rw [if_neg (by decide), if_pos rfl]
      have c2 : w.cell? ⟨p, 3 + 2, none⟩ = some (.int .i64 (lead q.r1.kn)) := (row_cells (pre := rowCells g0 h0 q.n (lead q.r0.kn)) (post := []) (o := 3) S1 rfl).2.2.1
      go_enter Tryz.func42, Tryz.ntmps42
      go_wp2_with (go_at_call 51; refine (of_1 p _).mono ?_; rintro e w1 ⟨rfl, rfl⟩)
      go_ret
      exact ⟨by rw [HE.out]; rfl, rfl⟩
    · have HE : Hid (q.known j = 0) := by show _ = _; unfold PQ.known; rw [if_neg j0, if_neg j1]
      have hout : j < 0 ∨ 1 < j := by omega
      clear j0 j1
      go_enter Tryz.func42, Tryz.ntmps42
      go_wp2_with (go_at_call 51; refine (of_out p hout _).mono ?_; rintro e w1 ⟨rfl, rfl⟩)
      go_ret
      exact ⟨by rw [HE.out]; rfl, rfl⟩
end Go.Proofs.YtjdeeloemhjbhaaGreat
end

section
namespace Go.Proofs.YtjdeeloemhjbhaaGreat
open Go.RowKit Go.Sep Go.Inp

theorem Tryz.qinfoU : (Tryz.prog.info? 38).map (fun i => (i.zero, i.size, i.bytes)) = some (some (.int .u16 0), 1, 2) := by kernel_rfl
theorem Tryz.qinfoK : (Tryz.prog.info? 4).map (fun i => (i.zero, i.size, i.bytes)) = some (some (.bool false), 1, 1) := by kernel_rfl

theorem made_u (n : Nat) : madeCells (Value.int .u16 0).cells n = (uv (List.replicate n 0)).toArray := by
  apply Array.ext
  · simp [madeCells, uv]
  · intro i h1 h2
    simp [madeCells, Value.cells, uv, Nat.mod_one]
theorem made_k (n : Nat) : madeCells (Value.bool false).cells n = (kv (List.replicate n false)).toArray := by
  apply Array.ext
  · simp [madeCells, kv]
  · intro i h1 h2
    simp [madeCells, Value.cells, kv, Nat.mod_one]

theorem mk_u (w : World) (n : Nat) (hn : n ≤ 600) : (Instr.makeSlice 26 (.int .i64 n) (.int .i64 n)).run Tryz.prog w = .ok (.slice (some ⟨w.heap.size, 0, none⟩) n n) (w.alloc (.cells (uv (List.replicate n 0)).toArray 38)) := by
  obtain ⟨i0, hi, hz0, hz1, hz2⟩ := info_parts Tryz.qinfoU
  have h := run_make (P := Tryz.prog) w 26 38 i0 (.int .u16 0) Tryz.underlying26 hi hz0 .i64 .i64 (n : Int) (n : Int) (by omega) (by omega) (by rw [hz2]; omega) (by omega)
  rw [h, hz1, Int.toNat_natCast, Nat.mul_one, made_u]
theorem mk_k (w : World) (n : Nat) (hn : n ≤ 600) : (Instr.makeSlice 35 (.int .i64 n) (.int .i64 n)).run Tryz.prog w = .ok (.slice (some ⟨w.heap.size, 0, none⟩) n n) (w.alloc (.cells (kv (List.replicate n false)).toArray 4)) := by
  obtain ⟨i0, hi, hz0, hz1, hz2⟩ := info_parts Tryz.qinfoK
  have h := run_make (P := Tryz.prog) w 35 4 i0 (.bool false) Tryz.underlying35 hi hz0 .i64 .i64 (n : Int) (n : Int) (by omega) (by omega) (by rw [hz2]; omega) (by omega)
  rw [h, hz1, Int.toNat_natCast, Nat.mul_one, made_k]

set_option maxRecDepth 100000 in
theorem qnew_bad (w : World) {n : Int} (h : n < 1 ∨ 600 < n) : Calls Tryz.prog 28 #[.int .i64 n] w fun e w' => e = .returned (.tuple #[.pointer none, .int .i64 1]) ∧ w = w' := by
  rcases h with h | h
  all_goals
    go_enter Tryz.func28, Tryz.ntmps28
    go_wp2_with fail
    go_ret2
    exact ⟨rfl, rfl⟩

def z3 : List Value := [.slice none 0 0, .slice none 0 0, .int .i64 0]
def NewSt (W0 : World) (L : List Asn) (p n : Nat) : Nat → World → Prop
  | 0, w => Sat W0 w (blk p (z3 ++ z3) 101 :: L)
  | 1, w => ∃ g h, Sat W0 w (blk p (rowCells g h n 0 ++ z3) 101 :: blk g (uv (List.replicate n 0)) 38 :: blk h (kv (List.replicate n false)) 4 :: L)
  | _, w => ∃ g h g' h', Sat W0 w (blk p (rowCells g h n 0 ++ rowCells g' h' n 0) 101 :: blk g (uv (List.replicate n 0)) 38 :: blk h (kv (List.replicate n false)) 4 :: blk g' (uv (List.replicate n 0)) 38 :: blk h' (kv (List.replicate n false)) 4 :: L)

set_option maxRecDepth 100000 in
theorem qnew_any {W0 w : World} {L : List Asn} (S : Sat W0 w L) (n : Nat) (h1 : 1 ≤ n) (h2 : n ≤ 600) :
    Calls Tryz.prog 28 #[.int .i64 n] w fun e w' => ∃ p, e = .returned (.tuple #[.pointer (some ⟨p, 0, none⟩), .int .i64 0]) ∧ Sat W0 w' (Qu p (PQ.new n) :: L) := by
  have hu := fun w => mk_u w n h2
  have hk := fun w => mk_k w n h2
  have S0 : NewSt W0 L w.heap.size n 0 (w.alloc (.cells (z3 ++ z3).toArray 101)) := S.alloc (z3 ++ z3) _
  go_enter Tryz.func28, Tryz.ntmps28
  go_wp2_with fail
  go_loopw [14] (fun i wr => ∃ k : Nat, k ≤ 2 ∧ i = .int .i64 k ∧ NewSt W0 L w.heap.size n k wr) (fun i _ => 2 - (intOf i).toNat)
  case atStart => exact ⟨0, by omega, rfl, S0⟩
  case round =>
    obtain ⟨k, hk, rfl, S1⟩ := hrel
    match k, hk, S1 with
    | 0, _, S1 =>
      have S1' : Sat W0 wr (blk w.heap.size (z3 ++ z3) 101 :: L) := S1
      have c0 := S1'.cell 0 rfl 0
      have c1 := S1'.cell 0 rfl 1
      have c2 := S1'.cell 0 rfl 2
      have fz := fun k => S1'.frozen 0 rfl k
      have hlt := (S1'.block 0 rfl).2.2
      simp only [z3, List.cons_append, List.nil_append, List.getElem?_cons_zero, List.getElem?_cons_succ] at c0 c1 c2
      go_wp2_with fail
      go_region
      all_goals
        go_wp2
        go_roundw
        case rel =>
          refine ⟨1, by omega, rfl, ?_⟩
          first
            | (have T := ((((((S1'.setCell (k := 0) (v := .slice (some ⟨wr.heap.size, 0, none⟩) n n) 0 rfl).setCell (k := 1) (v := .slice (some ⟨wr.heap.size + 1, 0, none⟩) n n) 0 rfl).setCell (k := 2) (v := .int .i64 0) 0 rfl).alloc (uv (List.replicate n 0)) 38).alloc (kv (List.replicate n false)) 4).drew)
               simp only [World.size_alloc, World.size_setCell] at T
               exact ⟨_, _, T.sel [2, 1, 0]⟩)
            | (have T := ((((((S1'.setCell (k := 0) (v := .slice (some ⟨wr.heap.size + 1, 0, none⟩) n n) 0 rfl).setCell (k := 1) (v := .slice (some ⟨wr.heap.size, 0, none⟩) n n) 0 rfl).setCell (k := 2) (v := .int .i64 0) 0 rfl).alloc (kv (List.replicate n false)) 4).alloc (uv (List.replicate n 0)) 38).drew)
               simp only [World.size_alloc, World.size_setCell] at T
               exact ⟨_, _, T.sel [2, 0, 0]⟩)
        case measure => simp [intOf]
    | 1, _, S1 =>
      obtain ⟨g, h, S1'⟩ : ∃ g h, Sat W0 wr (blk w.heap.size (rowCells g h n 0 ++ z3) 101 :: blk g (uv (List.replicate n 0)) 38 :: blk h (kv (List.replicate n false)) 4 :: L) := S1
      have c0 := S1'.cell 0 rfl 3
      have c1 := S1'.cell 0 rfl 4
      have c2 := S1'.cell 0 rfl 5
      have fz := fun k => S1'.frozen 0 rfl k
      have hlt := (S1'.block 0 rfl).2.2
      simp only [z3, rowCells, List.cons_append, List.nil_append, List.getElem?_cons_zero, List.getElem?_cons_succ] at c0 c1 c2
      go_wp2_with fail
      go_region
      all_goals
        go_wp2
        go_roundw
        case rel =>
          refine ⟨2, by omega, rfl, g, h, ?_⟩
          first
            | (have T := ((((((S1'.setCell (k := 3) (v := .slice (some ⟨wr.heap.size, 0, none⟩) n n) 0 rfl).setCell (k := 4) (v := .slice (some ⟨wr.heap.size + 1, 0, none⟩) n n) 0 rfl).setCell (k := 5) (v := .int .i64 0) 0 rfl).alloc (uv (List.replicate n 0)) 38).alloc (kv (List.replicate n false)) 4).drew)
               simp only [World.size_alloc, World.size_setCell] at T
               exact ⟨_, _, T.sel [2, 2, 2, 1, 0]⟩)
            | (have T := ((((((S1'.setCell (k := 3) (v := .slice (some ⟨wr.heap.size + 1, 0, none⟩) n n) 0 rfl).setCell (k := 4) (v := .slice (some ⟨wr.heap.size, 0, none⟩) n n) 0 rfl).setCell (k := 5) (v := .int .i64 0) 0 rfl).alloc (kv (List.replicate n false)) 4).alloc (uv (List.replicate n 0)) 38).drew)
               simp only [World.size_alloc, World.size_setCell] at T
               exact ⟨_, _, T.sel [2, 2, 2, 0, 0]⟩)
        case measure => simp [intOf]
    | 2, _, S1 =>
      obtain ⟨g, h, g', h', S1'⟩ : ∃ g h g' h', Sat W0 wr (blk w.heap.size (rowCells g h n 0 ++ rowCells g' h' n 0) 101 :: blk g (uv (List.replicate n 0)) 38 :: blk h (kv (List.replicate n false)) 4 :: blk g' (uv (List.replicate n 0)) 38 :: blk h' (kv (List.replicate n false)) 4 :: L) := S1
      go_wp2
      go_ret2
      refine ⟨_, rfl, Qu_open.2 ⟨(g, h, g', h'), ?_⟩⟩
      have hl : lead (List.replicate n false) = 0 := by cases n <;> rfl
      unfold quL PQ.new
      simp only [hl]
      exact S1'
end Go.Proofs.YtjdeeloemhjbhaaGreat
end

section
namespace Go.Proofs.YtjdeeloemhjbhaaGreat
open Go.RowKit Go.Sep Go.Inp

set_option maxRecDepth 100000 in
theorem qboth_any {W0 w : World} {L : List Asn} {p : Nat} {q : PQ} (S : Sat W0 w (Qu p q :: L)) :
    Calls Tryz.prog 49 #[.pointer (some ⟨p, 0, none⟩)] w fun e w' => e = .returned (.int .i64 q.both) ∧ w = w' := by
  have h0 : Hid (q.known 0 = lead q.r0.kn) := by show _ = _; unfold PQ.known; rw [if_pos rfl]
  have h1 : Hid (q.known 1 = lead q.r1.kn) := by show _ = _; unfold PQ.known; rw [if_neg (by decide), if_pos rfl]
  by_cases hle : lead q.r0.kn ≤ lead q.r1.kn
  · have HB : Hid (q.both = lead q.r0.kn) := by show _ = _; unfold PQ.both; omega
    go_enter Tryz.func49, Tryz.ntmps49
    go_wp2_with (first | (go_at_call_of 42 (Value.int .i64 0); refine (qknown_any S 0).mono ?_; rintro e w1 ⟨rfl, rfl⟩; rw [h0.out]) | (go_at_call_of 42 (Value.int .i64 1); refine (qknown_any S 1).mono ?_; rintro e w1 ⟨rfl, rfl⟩; rw [h1.out]))
    go_ret
    exact ⟨by rw [HB.out]; rfl, rfl⟩
  · have HB : Hid (q.both = lead q.r1.kn) := by show _ = _; unfold PQ.both; omega
    go_enter Tryz.func49, Tryz.ntmps49
    go_wp2_with (first | (go_at_call_of 42 (Value.int .i64 0); refine (qknown_any S 0).mono ?_; rintro e w1 ⟨rfl, rfl⟩; rw [h0.out]) | (go_at_call_of 42 (Value.int .i64 1); refine (qknown_any S 1).mono ?_; rintro e w1 ⟨rfl, rfl⟩; rw [h1.out]))
    go_ret
    exact ⟨by rw [HB.out]; rfl, rfl⟩

/-- a row of pairs, as cells -/
def pv : List (Int × Int) → List Value
  | [] => []
  | x :: r => .int .u16 x.1 :: .int .u16 x.2 :: pv r
theorem pv_length (l : List (Int × Int)) : (pv l).length = l.length * 2 := by
  induction l with
  | nil => rfl
  | cons x r ih => simp only [pv, List.length_cons, ih]; omega
theorem pv_append (a b : List (Int × Int)) : pv (a ++ b) = pv a ++ pv b := by
  induction a with
  | nil => rfl
  | cons x r ih => simp only [List.cons_append, pv, ih]
theorem pv_one (l : List (Int × Int)) : ∀ u ∈ pv l, u.oneCell' = true := by
  induction l with
  | nil => intro u hu; simp [pv] at hu
  | cons x r ih =>
    intro u hu
    simp only [pv, List.mem_cons] at hu
    rcases hu with rfl | rfl | hu
    · rfl
    · rfl
    · exact ih u hu
def sps (ao : Option Addr) (n cap : Nat) (l : List (Int × Int)) : Asn := slc 43 2 ao n cap (pv l)
theorem Tryz.infoP : (Tryz.prog.info? 43).map (fun i => (i.zero, i.size, i.bytes)) = some (some (.agg #[.int .u16 0, .int .u16 0]), 2, 4) := by kernel_rfl

def GivesP (W0 : World) (L : List Asn) (l : List (Int × Int)) (e : Ending) (w' : World) : Prop := ∃ ao cap, e = .returned (.slice ao l.length cap) ∧ Sat W0 w' (sps ao l.length cap l :: L)

theorem pairs_snoc {q : PQ} {k : Nat} : ((List.range (k + 1)).map fun i => (inAt q.r0 i, inAt q.r1 i)) = ((List.range k).map fun i => (inAt q.r0 i, inAt q.r1 i)) ++ [(inAt q.r0 k, inAt q.r1 k)] := by
  rw [List.range_succ, List.map_append]; rfl

theorem four_cells {W0 w : World} {L : List Asn} {p : Nat} {q : PQ} {x : Nat × Nat × Nat × Nat} {k : Nat} (S2 : Sat W0 w (quL p q x ++ L)) (hq : q.ok) (hk : k < q.n) :
    w.cell? ⟨p, 0, none⟩ = some (.slice (some ⟨x.1, 0, none⟩) q.n q.n) ∧ w.cell? ⟨p, 3, none⟩ = some (.slice (some ⟨x.2.2.1, 0, none⟩) q.n q.n) ∧
      w.cell? ⟨x.1, k, none⟩ = some (.int .u16 (inAt q.r0 k)) ∧ w.cell? ⟨x.2.2.1, k, none⟩ = some (.int .u16 (inAt q.r1 k)) :=
  ⟨(row_cells (pre := []) (post := rowCells x.2.2.1 x.2.2.2 q.n (lead q.r1.kn)) (o := 0) S2 rfl).1,
   (row_cells (pre := rowCells x.1 x.2.1 q.n (lead q.r0.kn)) (post := []) (o := 3) (S2.sel [0, 2, 2]) rfl).1,
   in_cell (pre := []) (post := rowCells x.2.2.1 x.2.2.2 q.n (lead q.r1.kn)) S2 (k := k) (by rw [hq.2.1.1]; omega),
   in_cell (pre := rowCells x.1 x.2.1 q.n (lead q.r0.kn)) (post := []) (S2.sel [0, 2, 2]) (k := k) (by rw [hq.2.2.1]; omega)⟩

end Go.Proofs.YtjdeeloemhjbhaaGreat
end
