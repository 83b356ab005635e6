/-
  RbT, RbX, RbU, RbV, RbW, RbY in one text (wip/tools/squeeze.py)
-/
import Derived.Test.YtjdeeloemhjbhaaGreatQRbN
import Derived.Test.YtjdeeloemhjbhaaGreatQVmL
import Derived.Test.YtjdeeloemhjbhaaGreatQInp5
import Derived.Test.YtjdeeloemhjbhaaGreatQIdx

section
namespace Go.Inp
open Go.RowKit
def PQ.row (q : PQ) (j : Int) : PRow := if j = 0 then q.r0 else q.r1
def PQ.setRow (q : PQ) (j : Int) (r : PRow) : PQ := if j = 0 then { q with r0 := r } else { q with r1 := r }
def tellR (r : PRow) (f : Nat) (x : Int) : PRow := ⟨r.ins.set f x, r.kn.set f true⟩
def PQ.tell (q : PQ) (j : Int) (f : Nat) (x : Int) : PQ := q.setRow j (tellR (q.row j) f x)
def Seat (j : Int) : Prop := j = 0 ∨ j = 1
section
variable {q : PQ} {j : Int}
theorem PQ.row_ok (h : q.ok) (j : Int) : (q.row j).ok q.n := by
  unfold PQ.row; split
  · exact h.2.1
  · exact h.2.2
theorem put_tell (hj : Seat j) {f : Nat} (hf : f < q.n) (hk : isKn (q.row j) f = false) (x : Int) : q.put j f x = (0, q.tell j f x) := by
  rcases hj with rfl | rfl
  · unfold PQ.put PQ.tell PQ.setRow tellR; rw [if_pos rfl, if_pos rfl]
    rw [show q.row 0 = q.r0 from rfl] at hk ⊢
    rw [putR_new hf hk]
  · unfold PQ.put PQ.tell PQ.setRow tellR; rw [if_neg (by decide), if_pos rfl, if_neg (by decide)]
    rw [show q.row 1 = q.r1 from rfl] at hk ⊢
    rw [putR_new hf hk]
theorem putR_has {n : Nat} {r : PRow} {f : Nat} {x : Int} (hf : f < n) (hk : isKn r f = true) : putR n r (f : Int) x = (hasErr (inAt r f) x, r) := by
  unfold putR
  rw [if_neg (by omega), Int.toNat_natCast, if_pos hk]
theorem put_has (hj : Seat j) {f : Nat} (hf : f < q.n) (hk : isKn (q.row j) f = true) (x : Int) : q.put j f x = (hasErr (inAt (q.row j) f) x, q) := by
  rcases hj with rfl | rfl
  · unfold PQ.put; rw [if_pos rfl]
    rw [show q.row 0 = q.r0 from rfl] at hk ⊢
    rw [putR_has hf hk]
  · unfold PQ.put; rw [if_neg (by decide), if_pos rfl]
    rw [show q.row 1 = q.r1 from rfl] at hk ⊢
    rw [putR_has hf hk]
theorem hasErr_zero (a x : Int) : hasErr a x ≠ 0 := by unfold hasErr; split <;> decide
theorem get_row (hj : Seat j) (k : Int) : q.get j k = getR q.n (q.row j) k := by
  rcases hj with rfl | rfl
  · unfold PQ.get; rw [if_pos rfl]; rfl
  · unfold PQ.get; rw [if_neg (by decide), if_pos rfl]; rfl
theorem known_row (hj : Seat j) : q.known j = lead (q.row j).kn := by
  rcases hj with rfl | rfl
  · unfold PQ.known; rw [if_pos rfl]; rfl
  · unfold PQ.known; rw [if_neg (by decide), if_pos rfl]; rfl
theorem tell_n (f : Nat) (x : Int) : (q.tell j f x).n = q.n := by unfold PQ.tell PQ.setRow; split <;> rfl
theorem tell_row (hj : Seat j) (f : Nat) (x : Int) : (q.tell j f x).row j = tellR (q.row j) f x := by
  rcases hj with rfl | rfl <;> rfl
theorem tell_other {i : Int} (hj : Seat j) (hi : Seat i) (h : i ≠ j) (f : Nat) (x : Int) : (q.tell j f x).row i = q.row i := by
  rcases hj with rfl | rfl <;> rcases hi with rfl | rfl
  · exact absurd rfl h
  · rfl
  · rfl
  · exact absurd rfl h
theorem tell_ok (h : q.ok) (hj : Seat j) (f : Nat) (x : Int) : (q.tell j f x).ok := by
  have h0 := PQ.row_ok h j
  have ht : (tellR (q.row j) f x).ok q.n := ⟨by unfold tellR; rw [List.length_set]; exact h0.1, by unfold tellR; rw [List.length_set]; exact h0.2⟩
  refine ⟨by rw [tell_n]; exact h.1, ?_, ?_⟩
  all_goals
    rw [tell_n]
    rcases hj with rfl | rfl
  · exact ht
  · exact h.2.1
  · exact h.2.2
  · exact ht
/-- what stands in the rows fits two octets -/
def RB (r : PRow) : Prop := ∀ v ∈ r.ins, (0 : Int) ≤ v ∧ v < 65536
def RBQ (q : PQ) : Prop := RB q.r0 ∧ RB q.r1
theorem inAt_rb {r : PRow} (h : RB r) (k : Nat) : 0 ≤ inAt r k ∧ inAt r k < 65536 := by
  unfold inAt
  cases e : r.ins[k]? with
  | none => simp
  | some v => exact h v (List.mem_of_getElem? e)
theorem guess_rb {r : PRow} (h : RB r) : ∀ k, 0 ≤ guess r k ∧ guess r k < 65536
  | 0 => ⟨by show (0 : Int) ≤ 0; omega, by show (0 : Int) < 65536; omega⟩
  | k + 1 => by unfold guess; split
                · exact inAt_rb h k
                · exact guess_rb h k
theorem getR_rb {n : Nat} {r : PRow} (h : RB r) (k : Int) : 0 ≤ (getR n r k).1 ∧ (getR n r k).1 < 65536 := by
  unfold getR
  split
  · exact ⟨by show (0 : Int) ≤ 0; omega, by show (0 : Int) < 65536; omega⟩
  · split
    · exact inAt_rb h _
    · exact guess_rb h _
theorem rbq_qb (h : RBQ q) : Go.Proofs.YtjdeeloemhjbhaaGreat.QB q := by
  intro j k
  unfold PQ.get
  split
  · exact getR_rb h.1 k
  · split
    · exact getR_rb h.2 k
    · exact ⟨by show (0 : Int) ≤ 0; omega, by show (0 : Int) < 65536; omega⟩
theorem tellR_rb {r : PRow} (h : RB r) {f : Nat} {x : Int} (hx : 0 ≤ x ∧ x < 65536) : RB (tellR r f x) := by
  intro v hv
  rcases List.mem_or_eq_of_mem_set hv with h2 | rfl
  · exact h v h2
  · exact hx
theorem tell_rb (h : RBQ q) (hj : Seat j) {f : Nat} {x : Int} (hx : 0 ≤ x ∧ x < 65536) : RBQ (q.tell j f x) := by
  rcases hj with rfl | rfl
  · exact ⟨tellR_rb h.1 hx, h.2⟩
  · exact ⟨h.1, tellR_rb h.2 hx⟩
theorem new_rb (n : Nat) : RBQ (PQ.new n) := by
  constructor <;> intro v hv <;> (have := (List.mem_replicate.1 hv).2; omega)
theorem lead_isKn {r : PRow} {k : Nat} (h : k < lead r.kn) : isKn r k = true := by unfold isKn; rw [lead_lt h]; rfl
theorem isKn_lead {r : PRow} : isKn r (lead r.kn) = false := by
  unfold isKn
  have := @lead_at r.kn
  cases e : r.kn[lead r.kn]? with
  | none => rfl
  | some b => cases b with
    | false => rfl
    | true => exact absurd e this
theorem lead_unique {r : PRow} {k : Nat} (h1 : ∀ i, i < k → isKn r i = true) (h2 : isKn r k = false) : lead r.kn = k := by
  refine lead_eq (fun i hi => ?_) (fun h => ?_)
  · have := h1 i hi
    unfold isKn at this
    cases e : r.kn[i]? with
    | none => rw [e] at this; cases this
    | some b => rw [e] at this; simp only [Option.getD_some] at this; rw [this]
  · unfold isKn at h2; rw [h] at h2; cases h2
theorem isKn_tellR {r : PRow} {n f : Nat} {x : Int} (h : r.ok n) (hf : f < n) (k : Nat) : isKn (tellR r f x) k = (decide (k = f) || isKn r k) := isKn_set h hf k
theorem lead_tell_le {r : PRow} {n f : Nat} {x : Int} (h : r.ok n) (hf : f < n) : lead r.kn ≤ lead (tellR r f x).kn := by
  rcases Nat.lt_or_ge (lead (tellR r f x).kn) (lead r.kn) with hlt | hge
  · have h1 := @isKn_lead (tellR r f x)
    rw [isKn_tellR h hf, lead_isKn hlt] at h1
    simp at h1
  · exact hge
theorem both_tell_le (h : q.ok) (hj : Seat j) {f : Nat} (hf : f < q.n) (x : Int) : q.both ≤ (q.tell j f x).both := by
  unfold PQ.both
  rcases hj with rfl | rfl
  · have := lead_tell_le (x := x) h.2.1 hf
    show min (lead q.r0.kn) (lead q.r1.kn) ≤ min (lead (tellR q.r0 f x).kn) (lead q.r1.kn)
    omega
  · have := lead_tell_le (x := x) h.2.2 hf
    show min (lead q.r0.kn) (lead q.r1.kn) ≤ min (lead q.r0.kn) (lead (tellR q.r1 f x).kn)
    omega
theorem both_le (hj : Seat j) : q.both ≤ lead (q.row j).kn := by
  unfold PQ.both
  rcases hj with rfl | rfl
  · exact Nat.min_le_left _ _
  · exact Nat.min_le_right _ _
theorem both_seat (hj : Seat j) : q.both = min (lead (q.row j).kn) (lead (q.row (1 - j)).kn) := by
  unfold PQ.both
  rcases hj with rfl | rfl
  · rfl
  · exact Nat.min_comm _ _
theorem Seat.other (h : Seat j) : Seat (1 - j) := by rcases h with rfl | rfl; exact .inr rfl; exact .inl rfl
theorem get_tell_other {i : Int} (hj : Seat j) (hi : Seat i) (h : i ≠ j) (f : Nat) (x : Int) (k : Int) : (q.tell j f x).get i k = q.get i k := by
  rw [get_row hi, get_row hi, tell_n, tell_other hj hi h]
theorem get_tell_lt (hq : q.ok) (hj : Seat j) {f : Nat} (hf : f < q.n) (x : Int) {k : Nat} (hk : k < f) (i : Int) (hi : Seat i) : (q.tell j f x).get i k = q.get i k := by
  by_cases e : i = j
  · subst e
    rw [get_row hi, get_row hi, tell_n, tell_row hj]
    exact getR_set_lt (PQ.row_ok hq i) hf hk
  · exact get_tell_other hj hi e f x k
theorem get_tell_right (hq : q.ok) (hj : Seat j) {f : Nat} (hf : f < q.n) {x : Int} (hk : isKn (q.row j) f = false) (hx : (q.get j f).1 = x) (k : Nat) (i : Int) (hi : Seat i) : ((q.tell j f x).get i k).1 = (q.get i k).1 := by
  by_cases e : i = j
  · subst e
    rw [get_row hi] at hx
    rw [get_row hi, get_row hi, tell_n, tell_row hj]
    exact getR_set_right (PQ.row_ok hq i) hf hk hx k
  · rw [get_tell_other hj hi e f x k]
end
end Go.Inp
namespace Go.Proofs.YtjdeeloemhjbhaaGreat
open Go.RowKit Go.Sep Go.Vm Go.Inp
theorem usedQ_tell_lt {q : PQ} {j : Int} (hq : q.ok) (hj : Seat j) {f : Nat} (hf : f < q.n) (x : Int) {n : Nat} (hn : n ≤ f) : usedQ (q.tell j f x) n = usedQ q n :=
  usedQ_congr fun i hi => ⟨by rw [get_tell_lt hq hj hf x (by omega) 0 (.inl rfl)], by rw [get_tell_lt hq hj hf x (by omega) 1 (.inr rfl)]⟩
theorem usedQ_tell_right {q : PQ} {j : Int} (hq : q.ok) (hj : Seat j) {f : Nat} (hf : f < q.n) {x : Int} (hk : isKn (q.row j) f = false) (hx : (q.get j f).1 = x) (n : Nat) : usedQ (q.tell j f x) n = usedQ q n :=
  usedQ_congr fun i _ => ⟨get_tell_right hq hj hf hk hx i 0 (.inl rfl), get_tell_right hq hj hf hk hx i 1 (.inr rfl)⟩
/-- what holds of a Session between two calls: own frames ahead of d are known -/
structure RInv (code : List (Int × Int)) (cap fuel seed me : Int) (q : PQ) (d c : Nat) (st wr : Int) (r : SR) (ring : List VS) (lo hi : Int) (u : List (Int × Int)) (n m : Nat) : Prop where
  inv : SInv code cap fuel seed q r ring lo hi u n m d
  hk : checkP code cap fuel = 0
  hs : 0 ≤ seed ∧ seed < 4294967296
  ro : r.Ok
  qo : q.ok
  qr : RBQ q
  qn : (q.n : Int) = cap
  hme : r.me = me
  seat : Seat me
  ne : (stA code cap fuel seed q n).over = true ∨ n = d
  se : (stA code cap fuel seed q m).over = true ∨ m = min q.both n
  mb : m ≤ q.both
  own : ∀ k, isKn (q.row me) k = decide (k < d)
  dn : d ≤ q.n
  st : r.st = st ∧ st ≤ 1000 * c
  wr : r.wr = wr ∧ 0 ≤ wr ∧ wr ≤ c
section
variable {code : List (Int × Int)} {cap fuel seed me : Int} {q : PQ} {d c : Nat} {st wr : Int} {r : SR} {ring : List VS} {lo hi : Int} {u : List (Int × Int)} {n m : Nat}
def sureN (q : PQ) (d : Nat) : Nat := min d q.both
theorem RInv.now (h : RInv code cap fuel seed me q d c st wr r ring lo hi u n m) : r.now = stA code cap fuel seed q d := by
  rw [h.inv.now]
  rcases h.ne with h1 | h1
  · exact (stA_over h1 d h.inv.nd.1).symm
  · rw [h1]
theorem RInv.sure (h : RInv code cap fuel seed me q d c st wr r ring lo hi u n m) : r.sure = stA code cap fuel seed q (sureN q d) := by
  rw [h.inv.sure]
  unfold sureN
  have h0 := h.inv.nd
  have h2 := h.inv.mn
  have h3 := h.mb
  rcases h.se with h1 | h1
  · exact (stA_over h1 _ (by omega)).symm
  · rcases h.ne with h4 | h4
    · by_cases hb : q.both ≤ n
      · rw [h1]; congr 1; omega
      · have e : m = n := by omega
        rw [e]
        exact (stA_over h4 _ (by omega)).symm
    · rw [h1, h4]; congr 1; omega
theorem RInv.qb (h : RInv code cap fuel seed me q d c st wr r ring lo hi u n m) : QB q := rbq_qb h.qr
theorem RInv.run (h : RInv code cap fuel seed me q d c st wr r ring lo hi u n m) (ho : (stA code cap fuel seed q d).over = false) : n = d ∧ d < q.n := by
  have e : n = d := by
    rcases h.ne with h1 | h1
    · rw [stA_over h1 d h.inv.nd.1, h1] at ho; cases ho
    · exact h1
  refine ⟨e, ?_⟩
  have g := stA_goes h.hk h.hs h.qb d
  have h1 := g.1.room ho
  have h2 := g.2.2 ho
  have h3 := h.qn
  omega
theorem RInv.sframe (h : RInv code cap fuel seed me q d c st wr r ring lo hi u n m) : (stA code cap fuel seed q (sureN q d)).frame = m := by
  rw [← h.sure, h.inv.sure, h.inv.sfr]
theorem RInv.nframe (h : RInv code cap fuel seed me q d c st wr r ring lo hi u n m) : (stA code cap fuel seed q d).frame = n := by
  rw [← h.now, h.inv.now, h.inv.fr]
theorem RInv.sover (_h : RInv code cap fuel seed me q d c st wr r ring lo hi u n m) (ho : (stA code cap fuel seed q (sureN q d)).over = true) : (stA code cap fuel seed q d).over = true := by
  rw [stA_over ho d (Nat.min_le_left _ _)]; exact ho
end
/-- a Session, plain -/
structure SK where
  code : List (Int × Int)
  cap : Int
  fuel : Int
  seed : Int
  me : Int
structure PS where
  q : PQ
  d : Nat
  st : Int
  wr : Int
def SK.now (K : SK) (s : PS) : VS := stA K.code K.cap K.fuel K.seed s.q s.d
def SK.sure (K : SK) (s : PS) : VS := stA K.code K.cap K.fuel K.seed s.q (sureN s.q s.d)
def SK.new (K : SK) : PS := ⟨PQ.new K.cap.toNat, 0, 0, 0⟩
def SK.loc (K : SK) (s : PS) (x : Int) : (Int × Int) × PS :=
  if (K.now s).over = true then ((0, 12), s) else
  if (K.sure s).frame + 8 ≤ (s.d : Int) then ((0, 13), s) else
  (((s.d : Int), 0), { s with q := s.q.tell K.me s.d x, d := s.d + 1, st := s.st + 1 })
def SK.anew (K : SK) (s : PS) (fr x : Int) : Prop := fr < (K.now s).frame ∧ (s.q.get (1 - K.me) fr).1 ≠ x
instance (K : SK) (s : PS) (fr x : Int) : Decidable (K.anew s fr x) := by unfold SK.anew; infer_instance
def SK.told (K : SK) (s : PS) (fr x : Int) : PS :=
  if K.anew s fr x then ⟨(s.q.put (1 - K.me) fr x).2, s.d, s.st + ((stA K.code K.cap K.fuel K.seed (s.q.put (1 - K.me) fr x).2 s.d).frame - fr), s.wr + 1⟩
  else { s with q := (s.q.put (1 - K.me) fr x).2 }
def SK.rem (K : SK) (s : PS) (fr x : Int) : Int × PS :=
  if fr < 0 ∨ K.cap ≤ fr then (1, s) else
  if (K.sure s).over = true then (12, s) else
  if (K.sure s).frame + 24 < fr then (13, s) else
  if (s.q.put (1 - K.me) fr x).1 ≠ 0 then ((s.q.put (1 - K.me) fr x).1, s) else (0, K.told s fr x)
def SK.RI (K : SK) (s : PS) (c : Nat) (r : SR) (ring : List VS) (lo hi : Int) (u : List (Int × Int)) (n m : Nat) : Prop := RInv K.code K.cap K.fuel K.seed K.me s.q s.d c s.st s.wr r ring lo hi u n m
structure SRest where
  r : SR
  ring : List VS
  lo : Int
  hi : Int
  u : List (Int × Int)
  n : Nat
  m : Nat
def SS (g : Nat) (K : SK) (s : PS) (c : Nat) : Asn := exA fun t : SRest => pureA (K.RI s c t.r t.ring t.lo t.hi t.u t.n t.m) (Sep.all (RA g t.r s.q t.ring t.lo t.hi t.u K.code))
theorem SS_open {W0 w : World} {L : List Asn} {g : Nat} {K : SK} {s : PS} {c : Nat} : Sat W0 w (SS g K s c :: L) ↔ ∃ r ring lo hi u n m, K.RI s c r ring lo hi u n m ∧ Sat W0 w (RA g r s.q ring lo hi u K.code ++ L) := by
  unfold SS
  rw [Sat.ex]
  constructor
  · rintro ⟨⟨r, ring, lo, hi, u, n, m⟩, h⟩
    obtain ⟨h1, h2⟩ := Sat.pure.1 h
    exact ⟨r, ring, lo, hi, u, n, m, h1, Sat.flat.1 h2⟩
  · rintro ⟨r, ring, lo, hi, u, n, m, h1, h2⟩
    exact ⟨⟨r, ring, lo, hi, u, n, m⟩, Sat.pure.2 ⟨h1, Sat.flat.2 h2⟩⟩
section
variable {K : SK} {s : PS} {c : Nat} {r : SR} {ring : List VS} {lo hi : Int} {u : List (Int × Int)} {n m : Nat}
theorem SK.RI.now (h : K.RI s c r ring lo hi u n m) : r.now = K.now s := RInv.now h
theorem SK.RI.sure (h : K.RI s c r ring lo hi u n m) : r.sure = K.sure s := RInv.sure h
/-- Local goes on -/
theorem SK.RI.loc (h : K.RI s c r ring lo hi u n m) (ho : (K.now s).over = false) (hf : ¬ (K.sure s).frame + 8 ≤ (s.d : Int)) {x : Int} (hx : 0 ≤ x ∧ x < 65536) :
    s.d = n ∧ n < s.q.n ∧ n < m + 8 ∧ (s.q.put r.me n x).2 = s.q.tell K.me n x ∧ (s.q.tell K.me n x).ok ∧ RBQ (s.q.tell K.me n x) ∧ isKn (s.q.row K.me) n = false ∧
    SInv K.code K.cap K.fuel K.seed (s.q.tell K.me n x) { r with dn := (n : Int) + 1 } ring lo hi u n m (n + 1) := by
  obtain ⟨e, hd⟩ := RInv.run h ho
  have hm := RInv.sframe h
  have hm2 : (K.sure s).frame = m := hm
  subst e
  have hnm : s.d < m + 8 := by omega
  have hkn : isKn (s.q.row K.me) s.d = false := by rw [h.own]; simp
  have h5 := h.inv.nd
  have hcap := (check_ok h.hk).2.2.2.1
  have hqn := h.qn
  have hus : ∀ k, k ≤ s.d → usedQ (s.q.tell K.me s.d x) k = usedQ s.q k := fun k hk2 => usedQ_tell_lt h.qo h.seat hd x hk2
  have hst : ∀ k, k ≤ s.d → stA K.code K.cap K.fuel K.seed (s.q.tell K.me s.d x) k = stA K.code K.cap K.fuel K.seed s.q k := fun k hk2 => by unfold stA; rw [hus k hk2]
  refine ⟨rfl, hd, hnm, by rw [h.hme, put_tell h.seat hd hkn], tell_ok h.qo h.seat _ _, tell_rb h.qr h.seat hx, hkn, ?_⟩
  have i := h.inv
  have hmn := i.mn
  exact ⟨i.hcap, i.hfuel, by rw [hst _ (Nat.le_refl _)]; exact i.now, by rw [hst _ (Nat.le_refl _)]; exact i.fr, by rw [hus _ (Nat.le_refl _)]; exact i.us, i.ul, i.hhi, i.hlo, i.rl, i.ro, fun k a b => by rw [hst k b]; exact i.rg k a b, by rw [hst m hmn]; exact i.sure, by rw [hst m hmn]; exact i.sfr, hmn, by simp only; omega, by omega, i.st⟩
/-- what goes leaves: all holds again -/
theorem SK.RI.gone {q' : PQ} {d' : Nat} (h : K.RI s c r ring lo hi u n m) (hqo : q'.ok) (hqr : RBQ q') (hqn : q'.n = s.q.n) (hb : s.q.both ≤ q'.both) (hown : ∀ k, isKn (q'.row K.me) k = decide (k < d')) (hd : d' ≤ q'.n)
    {r1 : SR} (h1 : r1.sure = r.sure) (h2 : r1.me = r.me) {st' wr' : Int} (hst : st' ≤ 1000 * (c + 1 : Nat)) (hwr : 0 ≤ wr' ∧ wr' ≤ (c + 1 : Nat))
    {r2 : SR} {ring2 : List VS} {lo2 hi2 : Int} {u2 : List (Int × Int)} {n2 m2 : Nat} (j1 : SInv K.code K.cap K.fuel K.seed q' r2 ring2 lo2 hi2 u2 n2 m2 d') (j2 : r2.Ok) (j3 : (stA K.code K.cap K.fuel K.seed q' n2).over = true ∨ n2 = d')
    (j4 : ((stA K.code K.cap K.fuel K.seed q' m2).over = true ∨ m2 = min q'.both n2 ∨ q'.both < m2) ∧ r1.sure.frame ≤ m2 ∧ ((m2 : Int) ≤ r1.sure.frame ∨ m2 ≤ q'.both)) (j5 : r2.st = st') (j6 : r2.wr = wr') (j7 : r2.me = r1.me) :
    K.RI ⟨q', d', st', wr'⟩ (c + 1) r2 ring2 lo2 hi2 u2 n2 m2 := by
  have e1 : r1.sure.frame = m := by rw [h1, h.inv.sure, h.inv.sfr]
  have hmb := h.mb
  have hm2 : m2 ≤ q'.both := by rcases j4.2.2 with h3 | h3 <;> omega
  exact ⟨j1, h.hk, h.hs, j2, hqo, hqr, by rw [hqn]; exact h.qn, by rw [j7, h2]; exact h.hme, h.seat, j3, by rcases j4.1 with h3 | h3 | h3; exact .inl h3; exact .inr h3; omega, hm2, hown, hd, ⟨j5, hst⟩, j6, hwr.1, hwr.2⟩
/-- the frames that are played do not go back, but where a guess was wrong -/
theorem stop_same {code : List (Int × Int)} {cap fuel seed : Int} (hk : checkP code cap fuel = 0) (hs : 0 ≤ seed ∧ seed < 4294967296) {q : PQ} (hq : QB q) {n n2 d : Nat} (h1 : (stA code cap fuel seed q n).over = true ∨ n = d) (hn : n ≤ n2) (hd : n2 ≤ d) (hf : (stA code cap fuel seed q n2).frame = n2) : n2 = n := by
  rcases h1 with h | h
  · have e := stA_over h n2 hn
    have f := (stA_goes hk hs hq n).2.1
    rw [e] at hf
    omega
  · omega
end
end Go.Proofs.YtjdeeloemhjbhaaGreat
end

section
namespace Go.Proofs.YtjdeeloemhjbhaaGreat
open Go.RowKit Go.Sep Go.Vm Go.Inp
set_option linter.unusedSimpArgs false

def bcode : List (Int × Int) := [(2, 0), (16, 0), (4, 0), (3, 0), (2, 1), (16, 1), (4, 0), (3, 1)]
theorem bcheck {limit : Int} (h : 1 ≤ limit ∧ limit ≤ 200) : checkP bcode limit 20 = 0 :=
  checkP_of (by decide +kernel) (by decide) (by omega) (by omega)
def bst (j a b : Int) : VS := ⟨j, [a, b, 0, 0, 0, 0, 0, 0, 0, 0, 0, 0, 0, 0, 0, 0], 1, false, 0⟩
theorem bstep {limit j a b i0 i1 : Int} (hl : 1 ≤ limit ∧ limit ≤ 200) (hj : 0 ≤ j ∧ j < limit) (ha : 0 ≤ a ∧ a ≤ 1000000000) (hb : 0 ≤ b ∧ b ≤ 1000000000) (h0 : 0 ≤ i0 ∧ i0 < 65536) (h1 : 0 ≤ i1 ∧ i1 < 65536) :
    stepP bcode limit 20 (bst j a b) i0 i1 = (endP limit (bst j (a + i0) (b + i1)), 0) := by
  have hr : runP bcode (20 : Int).toNat ⟨bst j a b, i0, i1, [], 0, false, false⟩ = (true, ⟨bst j (fadd a i0) (fadd b i1), i0, i1, [], 8, false, false⟩) := by kernel_rfl
  have hf : fadd a i0 = a + i0 := by unfold fadd held; omega
  have hg : fadd b i1 = b + i1 := by unfold fadd held; omega
  have hi : isP (bst j a b) = true := by
    unfold isP bst
    simp only [Bool.and_eq_true, Bool.or_eq_true, decide_eq_true_eq]
    exact ⟨by omega, by omega, by omega, by omega, .inr trivial⟩
  rw [stepP_of (bcheck hl) hi (by simp [bst]) rfl (by show j < limit; omega) hr, hf, hg]
  rfl
def s0L : List (Int × Int) → Int
  | [] => 0
  | x :: r => x.1 + s0L r
def s1L : List (Int × Int) → Int
  | [] => 0
  | x :: r => x.2 + s1L r
theorem s0L_append : ∀ (a b : List (Int × Int)), s0L (a ++ b) = s0L a + s0L b
  | [], b => by simp [s0L]
  | x :: a, b => by simp only [List.cons_append, s0L, s0L_append a b]; omega
theorem s1L_append : ∀ (a b : List (Int × Int)), s1L (a ++ b) = s1L a + s1L b
  | [], b => by simp [s1L]
  | x :: a, b => by simp only [List.cons_append, s1L, s1L_append a b]; omega
theorem sL_bound : ∀ (l : List (Int × Int)), U16s l → (0 ≤ s0L l ∧ s0L l ≤ 65535 * l.length) ∧ (0 ≤ s1L l ∧ s1L l ≤ 65535 * l.length)
  | [], _ => by simp [s0L, s1L]
  | x :: r, h => by
    have h1 := h x (by simp)
    have h2 := sL_bound r (fun y hy => h y (by simp [hy]))
    simp only [s0L, s1L, List.length_cons]
    omega
theorem sL_replicate (x y : Int) : ∀ n : Nat, s0L (List.replicate n (x, y)) = n * x ∧ s1L (List.replicate n (x, y)) = n * y
  | 0 => by simp [s0L, s1L]
  | n + 1 => by
    have ih := sL_replicate x y n
    rw [List.replicate_succ]
    simp only [s0L, s1L, ih.1, ih.2]
    rw [show ((n + 1 : Nat) : Int) = (n : Int) + 1 by omega, Int.add_mul, Int.add_mul, Int.one_mul, Int.one_mul]
    omega
/-- the state behind inputs -/
theorem bL {limit : Nat} (hl : 1 ≤ limit ∧ limit ≤ 200) : ∀ (m : Nat) (l : List (Int × Int)), l.length = m → U16s l →
    (m < limit → stL bcode limit 20 1 l = bst m (s0L l) (s1L l)) ∧ (m = limit → stL bcode limit 20 1 l = endP limit (bst ((limit : Int) - 1) (s0L l) (s1L l))) := by
  intro m
  induction m with
  | zero =>
    intro l hm _
    obtain rfl : l = [] := List.eq_nil_of_length_eq_zero hm
    exact ⟨fun _ => rfl, fun h => by omega⟩
  | succ m ih =>
    intro l hm hl2
    have hne : l ≠ [] := fun h => by rw [h] at hm; cases hm
    obtain ⟨l', x, hlx⟩ : ∃ l' x, l = l' ++ [x] := ⟨l.dropLast, l.getLast hne, (List.dropLast_concat_getLast hne).symm⟩
    subst hlx
    rw [List.length_append, List.length_singleton] at hm
    have hu : U16s l' := fun y hy => hl2 y (by simp [hy])
    have ih1 := (ih l' (by omega) hu).1
    have hx := hl2 x (by simp)
    have hb := sL_bound l' hu
    have hlen : l'.length = m := by omega
    rw [hlen] at hb
    have key : m < limit → stL bcode limit 20 1 (l' ++ [x]) = endP limit (bst m (s0L (l' ++ [x])) (s1L (l' ++ [x]))) := by
      intro hml
      rw [stL_snoc, ih1 hml, if_neg (by simp [bst]), bstep (by omega) (by omega) (by omega) (by omega) hx.1 hx.2, s0L_append, s1L_append]
      simp only [s0L, s1L, Int.add_zero]
    refine ⟨fun h => ?_, fun h => ?_⟩
    · rw [key (by omega), endP_on (by show (m : Int) + 1 < limit; omega)]
      rfl
    · rw [key (by omega), show (m : Int) = (limit : Int) - 1 by omega]
theorem bend {limit : Nat} (a b : Int) : (endP limit (bst ((limit : Int) - 1) a b)).frame = limit ∧ (endP limit (bst ((limit : Int) - 1) a b)).over = true ∧ (endP limit (bst ((limit : Int) - 1) a b)).cells = (bst 0 a b).cells := by
  unfold endP
  simp only
  rw [if_pos ⟨by show (limit : Int) ≤ (limit : Int) - 1 + 1; omega, rfl⟩]
  exact ⟨by show (limit : Int) - 1 + 1 = limit; omega, rfl, rfl⟩
theorem bL_all {limit : Nat} (hl : 1 ≤ limit ∧ limit ≤ 200) {l : List (Int × Int)} (h : l.length ≤ limit) (hu : U16s l) :
    (stL bcode limit 20 1 l).frame = l.length ∧ (stL bcode limit 20 1 l).over = decide (l.length = limit) ∧ (stL bcode limit 20 1 l).cells = (bst 0 (s0L l) (s1L l)).cells := by
  have hb := bL hl l.length l rfl hu
  by_cases e : l.length = limit
  · rw [hb.2 e, decide_eq_true e, e]
    exact bend _ _
  · rw [hb.1 (by omega), decide_eq_false e]
    exact ⟨rfl, rfl, rfl⟩
end Go.Proofs.YtjdeeloemhjbhaaGreat
namespace Go.Inp
open Go.RowKit
/-- a row of which the first d are known, all one number -/
def cstR (n d : Nat) (x : Int) : PRow := ⟨List.replicate d x ++ List.replicate (n - d) 0, List.replicate d true ++ List.replicate (n - d) false⟩
theorem set_grow {α : Type} (n d : Nat) (x y : α) (hd : d < n) : (List.replicate d x ++ List.replicate (n - d) y).set d x = List.replicate (d + 1) x ++ List.replicate (n - (d + 1)) y := by
  rw [List.set_append_right _ _ (by rw [List.length_replicate]; exact Nat.le_refl _), List.length_replicate, Nat.sub_self, show n - d = (n - (d + 1)) + 1 by omega, List.replicate_succ, List.set_cons_zero, List.replicate_succ', List.append_assoc]
  rfl
theorem cstR_tell {n d : Nat} {x : Int} (hd : d < n) : tellR (cstR n d x) d x = cstR n (d + 1) x := by
  unfold tellR cstR
  simp only
  rw [set_grow n d x 0 hd, set_grow n d true false hd]
theorem cstR_isKn {n d : Nat} {x : Int} (_hd : d ≤ n) (k : Nat) : isKn (cstR n d x) k = decide (k < d) := by
  unfold isKn cstR
  simp only
  by_cases h : k < d
  · rw [List.getElem?_append_left (by rw [List.length_replicate]; exact h), List.getElem?_replicate, if_pos h, decide_eq_true h]; rfl
  · rw [List.getElem?_append_right (by rw [List.length_replicate]; omega), List.getElem?_replicate, decide_eq_false h]
    split <;> rfl
theorem cstR_inAt {n d : Nat} {x : Int} {k : Nat} (h : k < d) : inAt (cstR n d x) k = x := by
  unfold inAt cstR
  simp only
  rw [List.getElem?_append_left (by rw [List.length_replicate]; exact h), List.getElem?_replicate, if_pos h]; rfl
theorem cstR_lead {n d : Nat} {x : Int} (hd : d ≤ n) : lead (cstR n d x).kn = d :=
  lead_unique (fun i hi => by rw [cstR_isKn hd, decide_eq_true hi]) (by rw [cstR_isKn hd]; simp)
theorem cstR_guess {n d : Nat} {x : Int} (hd : d ≤ n) (h0 : 0 < d) : ∀ k, 0 < k → guess (cstR n d x) k = x
  | 0, h => by omega
  | k + 1, _ => by
    unfold guess
    rw [cstR_isKn hd]
    by_cases h : k < d
    · rw [if_pos (by simpa using h), cstR_inAt h]
    · rw [if_neg (by simpa using h)]
      exact cstR_guess hd h0 k (by omega)
theorem cstR_guess0 {n : Nat} {x : Int} : ∀ k, guess (cstR n 0 x) k = 0
  | 0 => rfl
  | k + 1 => by
    unfold guess
    rw [cstR_isKn (Nat.zero_le _)]
    simp only [Nat.not_lt_zero, decide_false]
    exact cstR_guess0 k
theorem cstR_get {n d : Nat} {x : Int} (hd : d ≤ n) (h0 : 0 < d) {k : Nat} (hk : k < n) : (getR n (cstR n d x) (k : Int)).1 = x := by
  rw [getR_nat, cstR_isKn hd]
  by_cases h : k < d
  · rw [if_pos ⟨hk, by simpa using h⟩]; exact cstR_inAt h
  · rw [if_neg (fun h2 => h (by simpa using h2.2))]
    exact cstR_guess hd h0 _ (by omega)
theorem cstR_get0 {n : Nat} {x : Int} (k : Nat) : (getR n (cstR n 0 x) (k : Int)).1 = 0 := by
  rw [getR_nat, cstR_isKn (Nat.zero_le _), if_neg (by simp)]
  exact cstR_guess0 _
theorem cstR_ok {n d : Nat} {x : Int} (hd : d ≤ n) : (cstR n d x).ok n := by
  unfold cstR
  constructor <;> simp only [List.length_append, List.length_replicate] <;> omega
theorem cstR_rb {n d : Nat} {x : Int} (hx : 0 ≤ x ∧ x < 65536) : RB (cstR n d x) := by
  intro v hv
  rcases List.mem_append.1 hv with h | h <;> (have := (List.mem_replicate.1 h).2; omega)
/-- own frames ahead of d, the other's ahead of t -/
def AQ (n : Nat) (me : Int) (d t : Nat) (x y : Int) : PQ := ⟨n, if me = 0 then cstR n d x else cstR n t y, if me = 0 then cstR n t y else cstR n d x⟩
section
variable {n : Nat} {me : Int} {d t : Nat} {x y : Int}
theorem AQ_own (h : Seat me) : (AQ n me d t x y).row me = cstR n d x := by
  rcases h with rfl | rfl <;> rfl
theorem AQ_other (h : Seat me) : (AQ n me d t x y).row (1 - me) = cstR n t y := by
  rcases h with rfl | rfl <;> rfl
theorem AQ_new (h : Seat me) : PQ.new n = AQ n me 0 0 x y := by
  rcases h with rfl | rfl <;> rfl
theorem AQ_tell (h : Seat me) (hd : d < n) : (AQ n me d t x y).tell me d x = AQ n me (d + 1) t x y := by
  unfold PQ.tell
  rw [AQ_own h, cstR_tell hd]
  rcases h with rfl | rfl <;> rfl
theorem AQ_tello (h : Seat me) (ht : t < n) : (AQ n me d t x y).tell (1 - me) t y = AQ n me d (t + 1) x y := by
  unfold PQ.tell
  rw [AQ_other h, cstR_tell ht]
  rcases h with rfl | rfl <;> rfl
theorem AQ_both (h : Seat me) (hd : d ≤ n) (ht : t ≤ n) : (AQ n me d t x y).both = min d t := by
  rw [both_seat h, AQ_own h, AQ_other h, cstR_lead hd, cstR_lead ht]
theorem AQ_rb (h : Seat me) (hx : 0 ≤ x ∧ x < 65536) (hy : 0 ≤ y ∧ y < 65536) : RBQ (AQ n me d t x y) := by
  rcases h with rfl | rfl
  · exact ⟨cstR_rb hx, cstR_rb hy⟩
  · exact ⟨cstR_rb hy, cstR_rb hx⟩
end
end Go.Inp
namespace Go.Proofs.YtjdeeloemhjbhaaGreat
open Go.RowKit Go.Sep Go.Vm Go.Inp
def BK (limit : Nat) (me : Int) : SK := ⟨bcode, limit, 20, 1, me⟩
def BS (limit : Nat) (me : Int) (d t : Nat) (x y st wr : Int) : PS := ⟨AQ limit me d t x y, d, st, wr⟩
section
variable {limit : Nat} {me : Int} {d t : Nat} {x y st wr : Int}
theorem BK_new (h : Seat me) : (BK limit me).new = BS limit me 0 0 x y 0 0 := by
  unfold SK.new BS
  rw [show (BK limit me).cap.toNat = limit from Int.toNat_natCast limit, AQ_new (x := x) (y := y) h]
theorem BK_st (hl : 1 ≤ limit ∧ limit ≤ 200) (h : Seat me) (hx : 0 ≤ x ∧ x < 65536) (hy : 0 ≤ y ∧ y < 65536) {k : Nat} (hk : k ≤ limit) :
    (stA bcode limit 20 1 (AQ limit me d t x y) k).frame = k ∧ (stA bcode limit 20 1 (AQ limit me d t x y) k).over = decide (k = limit) ∧
    (stA bcode limit 20 1 (AQ limit me d t x y) k).cells = (bst 0 (s0L (usedQ (AQ limit me d t x y) k)) (s1L (usedQ (AQ limit me d t x y) k))).cells := by
  have := bL_all hl (l := usedQ (AQ limit me d t x y) k) (by rw [usedQ_length]; exact hk) (usedQ_u16 (rbq_qb (AQ_rb h hx hy)) k)
  rw [usedQ_length] at this
  exact this
theorem BK_now (hl : 1 ≤ limit ∧ limit ≤ 200) (h : Seat me) (hx : 0 ≤ x ∧ x < 65536) (hy : 0 ≤ y ∧ y < 65536) (hd : d ≤ limit) :
    ((BK limit me).now (BS limit me d t x y st wr)).frame = d ∧ ((BK limit me).now (BS limit me d t x y st wr)).over = decide (d = limit) :=
  ⟨(BK_st hl h hx hy hd).1, (BK_st hl h hx hy hd).2.1⟩
theorem BK_sureN (h : Seat me) (hd : d ≤ limit) (ht : t ≤ limit) : sureN (AQ limit me d t x y) d = min d t := by
  unfold sureN; rw [AQ_both h hd ht]; omega
theorem BK_sure (hl : 1 ≤ limit ∧ limit ≤ 200) (h : Seat me) (hx : 0 ≤ x ∧ x < 65536) (hy : 0 ≤ y ∧ y < 65536) (hd : d ≤ limit) (ht : t ≤ limit) :
    ((BK limit me).sure (BS limit me d t x y st wr)).frame = (min d t : Nat) ∧ ((BK limit me).sure (BS limit me d t x y st wr)).over = decide (min d t = limit) := by
  have e : (BK limit me).sure (BS limit me d t x y st wr) = stA bcode limit 20 1 (AQ limit me d t x y) (min d t) := by
    unfold SK.sure; rw [← BK_sureN h hd ht]; rfl
  rw [e]
  exact ⟨(BK_st hl h hx hy (by omega)).1, (BK_st hl h hx hy (by omega)).2.1⟩
theorem BK_loc (hl : 1 ≤ limit ∧ limit ≤ 200) (h : Seat me) (hx : 0 ≤ x ∧ x < 65536) (hy : 0 ≤ y ∧ y < 65536) (hd : d < limit) (ht : t ≤ limit) (h8 : d < min d t + 8) :
    (BK limit me).loc (BS limit me d t x y st wr) x = (((d : Int), 0), BS limit me (d + 1) t x y (st + 1) wr) := by
  have h1 := BK_now (t := t) (st := st) (wr := wr) hl h hx hy (show d ≤ limit by omega)
  have h2 := BK_sure (st := st) (wr := wr) hl h hx hy (show d ≤ limit by omega) ht
  unfold SK.loc
  rw [if_neg (by rw [h1.2]; simp; omega), if_neg (by rw [h2.1]; show ¬ ((min d t : Nat) : Int) + 8 ≤ (d : Int); omega)]
  show (((d : Int), (0 : Int)), (⟨(AQ limit me d t x y).tell me d x, d + 1, st + 1, wr⟩ : PS)) = _
  rw [AQ_tell h hd]; rfl
theorem BK_loc_far (hl : 1 ≤ limit ∧ limit ≤ 200) (h : Seat me) (hx : 0 ≤ x ∧ x < 65536) (hy : 0 ≤ y ∧ y < 65536) (hd : d < limit) (ht : t ≤ limit) (h8 : min d t + 8 ≤ d) (z : Int) :
    (BK limit me).loc (BS limit me d t x y st wr) z = ((0, 13), BS limit me d t x y st wr) := by
  have h1 := BK_now (t := t) (st := st) (wr := wr) hl h hx hy (show d ≤ limit by omega)
  have h2 := BK_sure (st := st) (wr := wr) hl h hx hy (show d ≤ limit by omega) ht
  unfold SK.loc
  rw [if_neg (by rw [h1.2]; simp; omega), if_pos (by rw [h2.1]; show ((min d t : Nat) : Int) + 8 ≤ (d : Int); omega)]
theorem BK_loc_over (hl : 1 ≤ limit ∧ limit ≤ 200) (h : Seat me) (hx : 0 ≤ x ∧ x < 65536) (hy : 0 ≤ y ∧ y < 65536) (z : Int) :
    (BK limit me).loc (BS limit me limit t x y st wr) z = ((0, 12), BS limit me limit t x y st wr) := by
  have h1 := BK_now (t := t) (st := st) (wr := wr) hl h hx hy (show limit ≤ limit by omega)
  unfold SK.loc
  rw [if_pos (by rw [h1.2]; simp)]
theorem BK_rem (hl : 1 ≤ limit ∧ limit ≤ 200) (h : Seat me) (hx : 0 ≤ x ∧ x < 65536) (hy : 0 ≤ y ∧ y < 65536) (hd : d ≤ limit) (ht : t < limit) (h24 : t ≤ min d t + 24) :
    (BK limit me).rem (BS limit me d t x y st wr) t y = (0, if t < d ∧ t = 0 ∧ y ≠ 0 then BS limit me d (t + 1) x y (st + d - t) (wr + 1) else BS limit me d (t + 1) x y st wr) := by
  have h1 := BK_now (t := t) (st := st) (wr := wr) hl h hx hy hd
  have h2 := BK_sure (st := st) (wr := wr) hl h hx hy hd (show t ≤ limit by omega)
  have hkn : isKn ((AQ limit me d t x y).row (1 - me)) t = false := by rw [AQ_other h, cstR_isKn (by omega)]; simp
  have hp : (AQ limit me d t x y).put (1 - me) t y = (0, AQ limit me d (t + 1) x y) := by rw [put_tell h.other ht hkn, AQ_tello h ht]
  have hg : (((AQ limit me d t x y).get (1 - me) t).1 ≠ y) ↔ (t = 0 ∧ y ≠ 0) := by
    rw [get_row h.other, AQ_other h, show (AQ limit me d t x y).n = limit from rfl]
    by_cases e : t = 0
    · subst e; rw [cstR_get0]
      exact ⟨fun h => ⟨rfl, fun h2 => h h2.symm⟩, fun h h2 => h.2 h2.symm⟩
    · rw [cstR_get (by omega) (by omega) ht]; simp [e]
  unfold SK.rem
  rw [if_neg (by show ¬ ((t : Int) < 0 ∨ (limit : Int) ≤ t); omega), if_neg (by rw [h2.2]; simp; omega), if_neg (by rw [h2.1]; omega)]
  have hne : ¬ ((BS limit me d t x y st wr).q.put (1 - (BK limit me).me) t y).1 ≠ 0 := by
    show ¬ ((AQ limit me d t x y).put (1 - me) t y).1 ≠ 0
    rw [hp]; simp
  rw [if_neg hne]
  have han : (BK limit me).anew (BS limit me d t x y st wr) t y ↔ (t < d ∧ t = 0 ∧ y ≠ 0) := by
    unfold SK.anew
    rw [h1.1]
    show ((t : Int) < d ∧ ((AQ limit me d t x y).get (1 - me) t).1 ≠ y) ↔ _
    rw [hg]
    exact ⟨fun h => ⟨by omega, h.2⟩, fun h => ⟨by omega, h.2⟩⟩
  congr 1
  unfold SK.told
  by_cases e : t < d ∧ t = 0 ∧ y ≠ 0
  · rw [if_pos e, if_pos (han.2 e)]
    have h3 : (stA (BK limit me).code (BK limit me).cap (BK limit me).fuel (BK limit me).seed (AQ limit me d (t + 1) x y) d).frame = d := (BK_st hl h hx hy hd).1
    show (⟨((AQ limit me d t x y).put (1 - me) t y).2, d, st + ((stA (BK limit me).code (BK limit me).cap (BK limit me).fuel (BK limit me).seed ((AQ limit me d t x y).put (1 - me) t y).2 d).frame - t), wr + 1⟩ : PS) = _
    rw [hp, h3]
    unfold BS
    congr 1
    omega
  · rw [if_neg e, if_neg (fun hh => e (han.1 hh))]
    show (⟨((AQ limit me d t x y).put (1 - me) t y).2, d, st, wr⟩ : PS) = _
    rw [hp]; rfl
/-- what is used, where the other's guesses are right -/
theorem AQ_used (h : Seat me) (hd : d ≤ limit) (ht : t ≤ limit) (h0 : 0 < t) {k : Nat} (hk : k ≤ d) : usedQ (AQ limit me d t x y) k = List.replicate k (if me = 0 then (x, y) else (y, x)) := by
  unfold usedQ
  refine List.ext_getElem (by simp) fun i h1 h2 => ?_
  simp only [List.length_map, List.length_range] at h1
  rw [List.getElem_map, List.getElem_range, List.getElem_replicate]
  have e1 : ((AQ limit me d t x y).get me (i : Int)).1 = x := by
    rw [get_row h, AQ_own h]; exact cstR_get hd (by omega) (show i < limit by omega)
  have e2 : ((AQ limit me d t x y).get (1 - me) (i : Int)).1 = y := by
    rw [get_row h.other, AQ_other h]; exact cstR_get ht h0 (show i < limit by omega)
  rcases h with rfl | rfl
  · rw [if_pos rfl]; rw [show (1 : Int) - 0 = 1 from rfl] at e2; rw [e1, e2]
  · rw [if_neg (by decide)]; rw [show (1 : Int) - 1 = 0 from rfl] at e2; rw [e1, e2]
end
end Go.Proofs.YtjdeeloemhjbhaaGreat
end

section
namespace Go.Proofs.YtjdeeloemhjbhaaGreat
open Go.RowKit Go.Sep Go.Oct Go.Vm Go.Inp
set_option linter.unusedSimpArgs false

theorem SInv.congr {code : List (Int × Int)} {cap fuel seed : Int} {q q' : PQ} {r : SR} {ring : List VS} {lo hi : Int} {u : List (Int × Int)} {n m d : Nat} (i : SInv code cap fuel seed q r ring lo hi u n m d) (hus : ∀ k, k ≤ n → usedQ q' k = usedQ q k) :
    SInv code cap fuel seed q' r ring lo hi u n m d := by
  have hst : ∀ k, k ≤ n → stA code cap fuel seed q' k = stA code cap fuel seed q k := fun k hk2 => by unfold stA; rw [hus k hk2]
  have hmn := i.mn
  exact ⟨i.hcap, i.hfuel, by rw [hst _ (Nat.le_refl _)]; exact i.now, by rw [hst _ (Nat.le_refl _)]; exact i.fr, by rw [hus _ (Nat.le_refl _)]; exact i.us, i.ul, i.hhi, i.hlo, i.rl, i.ro, fun k a b => by rw [hst k b]; exact i.rg k a b, by rw [hst m hmn]; exact i.sure, by rw [hst m hmn]; exact i.sfr, hmn, i.dn, i.nd, i.st⟩
section
variable {K : SK} {s : PS} {c : Nat} {r : SR} {ring : List VS} {lo hi : Int} {u : List (Int × Int)} {n m : Nat}
theorem SK.RI.more (h : K.RI s c r ring lo hi u n m) : K.RI s (c + 1) r ring lo hi u n m := by
  have h1 := h.st
  have h2 := h.wr
  exact ⟨h.inv, h.hk, h.hs, h.ro, h.qo, h.qr, h.qn, h.hme, h.seat, h.ne, h.se, h.mb, h.own, h.dn, ⟨h1.1, by omega⟩, h2.1, h2.2.1, by omega⟩
/-- back at a frame -/
theorem SK.RI.back (h : K.RI s c r ring lo hi u n m) {f : Nat} (hfn : f < n) (hmf : m ≤ f) {q' : PQ} (hus : ∀ k, k ≤ f → usedQ q' k = usedQ s.q k) :
    ring[f % 16]? = some (stA K.code K.cap K.fuel K.seed s.q f) ∧ isP (stA K.code K.cap K.fuel K.seed s.q f) = true ∧ (stA K.code K.cap K.fuel K.seed s.q f).frame = f ∧ lo ≤ f ∧
    SInv K.code K.cap K.fuel K.seed q' { r with wr := r.wr + 1, now := stA K.code K.cap K.fuel K.seed s.q f } (ring.set (f % 16) (stA K.code K.cap K.fuel K.seed s.q f)) (ringLo lo hi f) f u f m s.d := by
  have i := h.inv
  have hst : ∀ k, k ≤ f → stA K.code K.cap K.fuel K.seed q' k = stA K.code K.cap K.fuel K.seed s.q k := fun k hk2 => by unfold stA; rw [hus k hk2]
  have hfr := i.frames h.hk h.hs h.qb (k := f) (by omega)
  have hlo := i.hlo
  have hhi := i.hhi
  have hnd := i.nd
  have hul := i.ul
  have hrl := i.rl
  have g := (stA_goes h.hk h.hs h.qb f).1
  have hR : ringLo lo hi f = max lo ((f : Int) - 15) := by unfold ringLo; rw [if_neg (by omega)]
  refine ⟨i.rg f (by omega) (by omega), isP_goes h.hk g, hfr, by omega, ?_⟩
  refine ⟨i.hcap, i.hfuel, (hst f (Nat.le_refl _)).symm, by rw [hst f (Nat.le_refl _)]; exact hfr, ?_, by omega, rfl, by rw [hR]; omega, by rw [List.length_set]; exact hrl, ?_, ?_, by rw [hst m hmf]; exact i.sure, by rw [hst m hmf]; exact i.sfr, hmf, i.dn, by omega, i.st⟩
  · rw [hus f (Nat.le_refl _), ← usedQ_take s.q (show f ≤ n by omega), ← i.us, List.take_take, Nat.min_eq_left (by omega)]
  · intro t ht
    rcases List.mem_or_eq_of_mem_set ht with h2 | rfl
    · exact i.ro t h2
    · exact g.ok
  · intro k h1 h2
    rw [hR] at h1
    rw [hst k (by omega)]
    by_cases e : k = f
    · subst e
      rw [List.getElem?_set_self (by rw [hrl]; omega)]
    · rw [List.getElem?_set_ne (by omega)]
      exact i.rg k (by omega) (by omega)
end
def Loced (W0 : World) (L : List Asn) (g : Nat) (K : SK) (s : PS) (c : Nat) (x : Int) (e : Ending) (w' : World) : Prop :=
  e = .returned (.tuple #[.int .i64 (K.loc s x).1.1, .int .i64 (K.loc s x).1.2]) ∧ Sat W0 w' (SS g K (K.loc s x).2 (c + 1) :: L)
theorem sLoc_any {W0 w : World} {L : List Asn} {g : Nat} {K : SK} {s : PS} {c : Nat} (S : Sat W0 w (SS g K s c :: L)) (hc : c ≤ 10000) {x : Int} (hx : 0 ≤ x ∧ x < 65536) :
    Calls Tryz.prog 11 #[.pointer (some ⟨g, 0, none⟩), .int .u16 x] w (Loced W0 L g K s c x) := by
  obtain ⟨r, ring, lo, hi, u, n, m, h, S1⟩ := SS_open.1 S
  have S2 : Sat W0 w (blk g (rv r) 74 :: (Qu r.qp s.q :: RG r.rp ring lo hi :: sps r.ua r.un r.uc u :: sis r.ca r.cn r.cc K.code :: L)) := S1
  have hst := h.st
  have hwr := h.wr
  have hnd := h.inv.nd
  have hmn := h.inv.mn
  cases ho : (K.now s).over with
  | true =>
    refine (rbLocal_over S2 h.ro (.inl (by rw [h.now]; exact ho)) x).mono ?_
    rintro e w' ⟨rfl, S3⟩
    have e : K.loc s x = ((0, 12), s) := by unfold SK.loc; rw [if_pos ho]
    unfold Loced
    rw [e]
    exact ⟨rfl, SS_open.2 ⟨r, ring, lo, hi, u, n, m, h.more, S3⟩⟩
  | false =>
    have hso : (K.sure s).over = false := by
      cases e : (K.sure s).over with
      | false => rfl
      | true => exact absurd (RInv.sover h e) (by rw [show stA K.code K.cap K.fuel K.seed s.q s.d = K.now s from rfl, ho]; simp)
    have hsf : (K.sure s).frame = m := RInv.sframe h
    have hnn : r.now.frame = n := by rw [h.inv.now, h.inv.fr]
    have hmm : r.sure.frame = m := by rw [h.inv.sure, h.inv.sfr]
    obtain ⟨e, hd⟩ := RInv.run h ho
    by_cases hf : (K.sure s).frame + 8 ≤ (s.d : Int)
    · refine (rbLocal_far S2 h.ro (by rw [h.now]; exact ho) (by rw [h.sure]; exact hso) hnn hmm (by omega) (by omega) x).mono ?_
      rintro e w' ⟨rfl, S3⟩
      have e : K.loc s x = ((0, 13), s) := by unfold SK.loc; rw [if_neg (by rw [ho]; simp), if_pos hf]
      unfold Loced
      rw [e]
      exact ⟨rfl, SS_open.2 ⟨r, ring, lo, hi, u, n, m, h.more, S3⟩⟩
    · obtain ⟨a1, a2, a3, a4, a5, a6, a7, a8⟩ := h.loc ho hf hx
      have hcl := (check_ok h.hk).1
      refine (rbLocal_ok h.hk h.hs (by omega) h.qo h.ro S1 (by rw [h.now]; exact ho) (by rw [h.sure]; exact hso) hnn hmm hmn a3 (by omega) x a4 a5 (rbq_qb a6) (by omega) a8).mono ?_
      unfold Locald Gone
      rintro e w' ⟨rfl, -, r2, ring2, lo2, hi2, u2, n2, m2, j1, j2, j3, j4, j5, j6, j7, j8, S3⟩
      have hl : K.loc s x = (((s.d : Int), 0), { s with q := s.q.tell K.me s.d x, d := s.d + 1, st := s.st + 1 }) := by unfold SK.loc; rw [if_neg (by rw [ho]; simp), if_neg hf]
      have hj := j1.nd
      have h12 : n2 = n + 1 := by
        rcases j3 with j3 | j3
        · by_cases e3 : n2 = n
          · rw [e3] at j3
            unfold stA at j3
            rw [usedQ_tell_lt h.qo h.seat a2 x (Nat.le_refl _)] at j3
            have : (K.now s).over = true := by unfold SK.now stA; rw [a1]; exact j3
            rw [ho] at this; cases this
          · omega
        · exact j3
      unfold Loced
      rw [hl, a1]
      refine ⟨rfl, SS_open.2 ⟨r2, ring2, lo2, hi2, u2, n2, m2, ?_, S3⟩⟩
      refine h.gone (r1 := { r with dn := (n : Int) + 1 }) a5 a6 (tell_n _ _) (both_tell_le h.qo h.seat a2 x) (fun k => ?_) (by rw [tell_n]; omega) rfl rfl (by omega) (by omega) j1 j2 j3 j4 (by rw [j5]; simp only; omega) (by rw [j6]; exact hwr.1) j7
      rw [tell_row h.seat, isKn_tellR (PQ.row_ok h.qo _) a2, h.own, a1]
      by_cases e1 : k = n
      · simp [e1]
      · simp only [e1, decide_false, Bool.false_or]
        by_cases e2 : k < n
        · rw [decide_eq_true e2, decide_eq_true (by omega)]
        · rw [decide_eq_false e2, decide_eq_false (by omega)]
def Remed (W0 : World) (L : List Asn) (g : Nat) (K : SK) (s : PS) (c : Nat) (fr x : Int) (e : Ending) (w' : World) : Prop :=
  e = .returned (.int .i64 (K.rem s fr x).1) ∧ Sat W0 w' (SS g K (K.rem s fr x).2 (c + 1) :: L)
theorem sRem_any {W0 w : World} {L : List Asn} {g : Nat} {K : SK} {s : PS} {c : Nat} (S : Sat W0 w (SS g K s c :: L)) (hc : c ≤ 10000) (fr : Int) {x : Int} (hx : 0 ≤ x ∧ x < 65536) :
    Calls Tryz.prog 12 #[.pointer (some ⟨g, 0, none⟩), .int .i64 fr, .int .u16 x] w (Remed W0 L g K s c fr x) := by
  obtain ⟨r, ring, lo, hi, u, n, m, h, S1⟩ := SS_open.1 S
  have S2 : Sat W0 w (blk g (rv r) 74 :: (Qu r.qp s.q :: RG r.rp ring lo hi :: sps r.ua r.un r.uc u :: sis r.ca r.cn r.cc K.code :: L)) := S1
  have hst := h.st
  have hwr := h.wr
  have hnd := h.inv.nd
  have hmn := h.inv.mn
  have hcc := h.inv.hcap
  have hcl := (check_ok h.hk).1
  have hcap := (check_ok h.hk).2.2.2.1
  have hqn := h.qn
  have hsf : (K.sure s).frame = m := RInv.sframe h
  have hnf : (K.now s).frame = n := RInv.nframe h
  have hnn : r.now.frame = n := by rw [h.inv.now, h.inv.fr]
  have hmm : r.sure.frame = m := by rw [h.inv.sure, h.inv.sfr]
  have hme : 0 ≤ r.me ∧ r.me ≤ 1 := by rw [h.hme]; rcases h.seat with e | e <;> rw [e] <;> omega
  unfold Remed
  by_cases h1 : fr < 0 ∨ K.cap ≤ fr
  · refine (rbRemote_arg S2 h.ro (fr := fr) (by rw [hcc]; exact h1) x).mono ?_
    rintro e w' ⟨rfl, S3⟩
    have e : K.rem s fr x = (1, s) := by unfold SK.rem; rw [if_pos h1]
    rw [e]
    exact ⟨rfl, SS_open.2 ⟨r, ring, lo, hi, u, n, m, h.more, S3⟩⟩
  · have h1' : 0 ≤ fr ∧ fr < r.cap := by rw [hcc]; omega
    cases hso : (K.sure s).over with
    | true =>
      refine (rbRemote_over S2 h.ro h1' (by rw [h.sure]; exact hso) x).mono ?_
      rintro e w' ⟨rfl, S3⟩
      have e : K.rem s fr x = (12, s) := by unfold SK.rem; rw [if_neg h1, if_pos hso]
      rw [e]
      exact ⟨rfl, SS_open.2 ⟨r, ring, lo, hi, u, n, m, h.more, S3⟩⟩
    | false =>
      have hso' : r.sure.over = false := by rw [h.sure]; exact hso
      by_cases h3 : (K.sure s).frame + 24 < fr
      · refine (rbRemote_far S2 h.ro h1' hso' hmm (by omega) (by omega) x).mono ?_
        rintro e w' ⟨rfl, S3⟩
        have e : K.rem s fr x = (13, s) := by unfold SK.rem; rw [if_neg h1, if_neg (by rw [hso]; simp), if_pos h3]
        rw [e]
        exact ⟨rfl, SS_open.2 ⟨r, ring, lo, hi, u, n, m, h.more, S3⟩⟩
      · obtain ⟨f, rfl⟩ : ∃ f : Nat, fr = f := ⟨fr.toNat, by omega⟩
        have hfn : f < s.q.n := by omega
        have hoth := h.seat.other
        have he0 : K.rem s f x = if (s.q.put (1 - K.me) f x).1 ≠ 0 then ((s.q.put (1 - K.me) f x).1, s) else (0, K.told s f x) := by unfold SK.rem; rw [if_neg h1, if_neg (by rw [hso]; simp), if_neg h3]
        cases hkn : isKn (s.q.row (1 - K.me)) f with
        | true =>
          have hp := put_has hoth hfn hkn x
          have hne := hasErr_zero (inAt (s.q.row (1 - K.me)) f) x
          rw [he0, hp, if_pos hne]
          refine (rbRemote_has S2 h.ro h.qo h1' hso' hmm (by omega) (by omega) hme x (by rw [h.hme]; exact hp) hne).mono ?_
          rintro e w' ⟨rfl, S3⟩
          exact ⟨rfl, SS_open.2 ⟨r, ring, lo, hi, u, n, m, h.more, S3⟩⟩
        | false =>
          have hp := put_tell hoth hfn hkn x
          have hmf : m ≤ f := by
            rcases Nat.lt_or_ge f m with hlt | hge
            · have a := both_le (q := s.q) hoth
              have b := h.mb
              rw [lead_isKn (by omega)] at hkn
              cases hkn
            · exact hge
          have hqo' := tell_ok h.qo hoth f x
          have hqr' := tell_rb h.qr hoth (f := f) hx
          have hown : ∀ k, isKn ((s.q.tell (1 - K.me) f x).row K.me) k = decide (k < s.d) := by
            intro k
            rw [tell_other hoth h.seat (by rcases h.seat with e | e <;> rw [e] <;> decide)]
            exact h.own k
          have hE : K.rem s f x = (0, K.told s f x) := by rw [he0, hp, if_neg (by simp)]
          have hT : K.told s f x = if K.anew s f x then ⟨s.q.tell (1 - K.me) f x, s.d, s.st + ((stA K.code K.cap K.fuel K.seed (s.q.tell (1 - K.me) f x) s.d).frame - f), s.wr + 1⟩ else { s with q := s.q.tell (1 - K.me) f x } := by unfold SK.told; rw [hp]
          rw [hE]
          by_cases h5 : f < n
          · have hu : u[f]? = some ((s.q.get 0 (f : Int)).1, (s.q.get 1 (f : Int)).1) := by
              rw [← usedQ_at s.q h5, ← h.inv.us, List.getElem?_take, if_pos h5]
            by_cases h6 : (s.q.get (1 - K.me) f).1 = x
            · have hus : ∀ k, k ≤ n → usedQ (s.q.tell (1 - K.me) f x) k = usedQ s.q k := fun k _ => usedQ_tell_right h.qo hoth hfn hkn h6 k
              have hI := h.inv.congr hus
              rw [hT, if_neg (fun hh => hh.2 h6)]
              refine (rbRemote_same h.hk h.hs (by omega) h.qo h.ro S1 h1'.2 hso' hnn hmm (by omega) (by omega) h5 hu ?_ (by rw [h.hme]; exact hp) hqo' (rbq_qb hqr') (by omega) hI).mono ?_
              · rw [h.hme]
                rcases h.seat with e | e
                · right; rw [e] at h6; exact ⟨e, h6⟩
                · left; rw [e] at h6; exact ⟨e, h6⟩
              · unfold Remoted Gone
                rintro e w' ⟨rfl, -, r2, ring2, lo2, hi2, u2, n2, m2, j1, j2, j3, j4, j5, j6, j7, j8, S3⟩
                have h12 : n2 = n := stop_same h.hk h.hs (rbq_qb hqr') (n := n) (d := s.d) (by
                  have hne := h.ne
                  unfold stA at hne ⊢
                  rw [hus n (Nat.le_refl _)]
                  exact hne) j8 j1.nd.1 j1.fr
                exact ⟨rfl, SS_open.2 ⟨r2, ring2, lo2, hi2, u2, n2, m2, h.gone (r1 := r) hqo' hqr' (tell_n _ _) (both_tell_le h.qo hoth hfn x) hown (by rw [tell_n]; exact h.dn) rfl rfl (by omega) (by omega) j1 j2 j3 j4 (by rw [j5]; omega) (by rw [j6]; exact hwr.1) j7, S3⟩⟩
            · have hus : ∀ k, k ≤ f → usedQ (s.q.tell (1 - K.me) f x) k = usedQ s.q k := fun k hk2 => usedQ_tell_lt h.qo hoth hfn x hk2
              obtain ⟨b1, b2, b3, b4, b5⟩ := h.back h5 hmf hus
              have hhi := h.inv.hhi
              rw [hT, if_pos ⟨by rw [hnf]; omega, h6⟩]
              refine (rbRemote_back h.hk h.hs (by omega) h.qo h.ro S1 h1'.2 hso' hnn hmm (by omega) (by omega) h5 hu ?_ h.inv.rl h.inv.ro b1 b2 b3 ⟨h.inv.hlo.1, b4⟩ ⟨by omega, by omega⟩ (by omega) (by rw [h.hme]; exact hp) hqo' (rbq_qb hqr') (by omega) b5).mono ?_
              · rw [h.hme]
                rcases h.seat with e | e
                · right; rw [e] at h6; exact ⟨e, h6⟩
                · left; rw [e] at h6; exact ⟨e, h6⟩
              · unfold Remoted Gone
                rintro e w' ⟨rfl, -, r2, ring2, lo2, hi2, u2, n2, m2, j1, j2, j3, j4, j5, j6, j7, j8, S3⟩
                have hfd : (stA K.code K.cap K.fuel K.seed (s.q.tell (1 - K.me) f x) s.d).frame = n2 := by
                  rcases j3 with j3 | j3
                  · rw [stA_over j3 s.d j1.nd.1]; exact j1.fr
                  · rw [← j3]; exact j1.fr
                rw [hfd]
                have hj1 := j1.nd
                exact ⟨rfl, SS_open.2 ⟨r2, ring2, lo2, hi2, u2, n2, m2, h.gone (r1 := { r with wr := r.wr + 1, now := stA K.code K.cap K.fuel K.seed s.q f }) hqo' hqr' (tell_n _ _) (both_tell_le h.qo hoth hfn x) hown (by rw [tell_n]; exact h.dn) rfl rfl (by omega) (by omega) j1 j2 j3 j4 (by rw [j5]; simp only; omega) (by rw [j6]; simp only; omega) j7, S3⟩⟩
          · have hus : ∀ k, k ≤ n → usedQ (s.q.tell (1 - K.me) f x) k = usedQ s.q k := fun k hk2 => usedQ_tell_lt h.qo hoth hfn x (by omega)
            have hI := h.inv.congr hus
            rw [hT, if_neg (fun hh => by have := hh.1; rw [hnf] at this; omega)]
            refine (rbRemote_ahead h.hk h.hs (by omega) h.qo h.ro S1 h1' hso' hnn hmm (by omega) (by omega) (by omega) hme x (by rw [h.hme]; exact hp) hqo' (rbq_qb hqr') (by omega) hI).mono ?_
            unfold Remoted Gone
            rintro e w' ⟨rfl, -, r2, ring2, lo2, hi2, u2, n2, m2, j1, j2, j3, j4, j5, j6, j7, j8, S3⟩
            have h12 : n2 = n := stop_same h.hk h.hs (rbq_qb hqr') (n := n) (d := s.d) (by
              have hne := h.ne
              unfold stA at hne ⊢
              rw [hus n (Nat.le_refl _)]
              exact hne) j8 j1.nd.1 j1.fr
            exact ⟨rfl, SS_open.2 ⟨r2, ring2, lo2, hi2, u2, n2, m2, h.gone (r1 := r) hqo' hqr' (tell_n _ _) (both_tell_le h.qo hoth hfn x) hown (by rw [tell_n]; exact h.dn) rfl rfl (by omega) (by omega) j1 j2 j3 j4 (by rw [j5]; omega) (by rw [j6]; exact hwr.1) j7, S3⟩⟩
end Go.Proofs.YtjdeeloemhjbhaaGreat
end

section
namespace Go.Proofs.YtjdeeloemhjbhaaGreat
open Go.RowKit Go.Sep Go.Oct Go.Vm Go.Inp
set_option linter.unusedSimpArgs false

set_option maxRecDepth 100000 in
set_option maxHeartbeats 1600000 in
theorem rbNow_any {W0 w : World} {L : List Asn} {g : Nat} {r : SR} (S : Sat W0 w (blk g (rv r) 74 :: L)) (hr : r.Ok) :
    Calls Tryz.prog 19 #[.pointer (some ⟨g, 0, none⟩)] w fun e w' => e = .returned (.agg (svals r.now).toArray) ∧ Sat W0 w' (blk g (rv r) 74 :: L) := by
  have S1 := S.alloc [.int .i64 0, .int .i32 0, .int .i32 0, .int .i32 0, .int .i32 0, .int .i32 0, .int .i32 0, .int .i32 0, .int .i32 0, .int .i32 0, .int .i32 0, .int .i32 0, .int .i32 0, .int .i32 0, .int .i32 0, .int .i32 0, .int .i32 0, .int .u32 0, .bool false, .int .i64 0] 46
  have HTL := Lib.hid hr.n20
  have HC := Lib.hid (r_at hr (S1.sel [1])).now
  clear S
  go_enter Tryz.func19, Tryz.ntmps19
  go_wp2_with (first
    | (refine wpList_load_part rfl 46 _ rfl (n := 20) rfl HC.out HTL.out Tryz.underlying46 rfl Tryz.sizeS ?_)
    | (refine wpList_store_sat (off := 0) (n := 20) rfl 46 _ _ rfl S1 rfl rfl HTL.out (by decide) Tryz.sizeS (svals_one r.now) ?_; intro w3 S3; rw [zstore] at S3))
  exact bodyPost_ret (results_cell_sat rfl _ S3 rfl Tryz.underlying46 rfl (by rw [HTL.out]; exact Tryz.sizeS)) rfl ⟨rfl, S3.tail⟩
set_option maxRecDepth 100000 in
set_option maxHeartbeats 1600000 in
theorem rbSure_any {W0 w : World} {L : List Asn} {g : Nat} {r : SR} (S : Sat W0 w (blk g (rv r) 74 :: L)) (hr : r.Ok) :
    Calls Tryz.prog 14 #[.pointer (some ⟨g, 0, none⟩)] w fun e w' => e = .returned (.agg (svals r.sure).toArray) ∧ Sat W0 w' (blk g (rv r) 74 :: L) := by
  have S1 := S.alloc [.int .i64 0, .int .i32 0, .int .i32 0, .int .i32 0, .int .i32 0, .int .i32 0, .int .i32 0, .int .i32 0, .int .i32 0, .int .i32 0, .int .i32 0, .int .i32 0, .int .i32 0, .int .i32 0, .int .i32 0, .int .i32 0, .int .i32 0, .int .u32 0, .bool false, .int .i64 0] 46
  have HTL := Lib.hid hr.s20
  have HC := Lib.hid (r_at hr (S1.sel [1])).sure
  clear S
  go_enter Tryz.func14, Tryz.ntmps14
  go_wp2_with (first
    | (refine wpList_load_part rfl 46 _ rfl (n := 20) rfl HC.out HTL.out Tryz.underlying46 rfl Tryz.sizeS ?_)
    | (refine wpList_store_sat (off := 0) (n := 20) rfl 46 _ _ rfl S1 rfl rfl HTL.out (by decide) Tryz.sizeS (svals_one r.sure) ?_; intro w3 S3; rw [zstore] at S3))
  exact bodyPost_ret (results_cell_sat rfl _ S3 rfl Tryz.underlying46 rfl (by rw [HTL.out]; exact Tryz.sizeS)) rfl ⟨rfl, S3.tail⟩
set_option maxRecDepth 100000 in
set_option maxHeartbeats 1600000 in
theorem rbWork_any {W0 w : World} {L : List Asn} {g : Nat} {r : SR} (S : Sat W0 w (blk g (rv r) 74 :: L)) (hr : r.Ok) :
    Calls Tryz.prog 18 #[.pointer (some ⟨g, 0, none⟩)] w fun e w' => e = .returned (.tuple #[.int .i64 r.st, .int .i64 r.wr]) ∧ Sat W0 w' (blk g (rv r) 74 :: L) := by
  go_enter Tryz.func18, Tryz.ntmps18
  go_upto_region 3 with fail
  refine wp_region_drawn (N := 10) (LN := #[false, false, false, false, false, false, false, false, false, false]) (by kernel_rfl) (by kernel_rfl) (by kernel_rfl) ?_
  have S4 := S.drew
  generalize w.drew = w4 at S4 ⊢
  clear S
  refine wpAny_held (fun w' => w'.cell? ⟨g, 48, none⟩ = some (.int .i64 r.st) ∧ w'.cell? ⟨g, 49, none⟩ = some (.int .i64 r.wr)) ⟨(r_at hr S4).st, (r_at hr S4).wr⟩ (fun hHeld => ?_)
  refine wpAnyH_tk (i := 0) (v := ?_) (LN := #[true, false, false, false, false, false, false, false, false, false]) rfl (by kernel_rfl) (by kernel_rfl) (by kernel_rfl) (fun _ _ _ h => h) (by kernel_rfl) (by rfl) (by assumption) ?_ ?_
  rotate_left
  · intro w hSw; (try dsimp only at hSw); first | (go_simp; done) | (go_simp; with_reducible rfl)
  try simp only [Act.put, List.getElem_toArray, List.getElem_cons_zero, List.getElem_cons_succ, List.setIfInBounds_toArray, List.set_cons_zero, List.set_cons_succ]
  refine wpAnyH_tk (i := 1) (v := ?_) (LN := #[true, true, false, false, false, false, false, false, false, false]) rfl (by kernel_rfl) (by kernel_rfl) (by kernel_rfl) (fun _ _ _ h => h) (by kernel_rfl) (by rfl) (by assumption) ?_ ?_
  rotate_left
  · intro w hSw; (try dsimp only at hSw); first | (go_simp; done) | (go_simp; with_reducible rfl)
  try simp only [Act.put, List.getElem_toArray, List.getElem_cons_zero, List.getElem_cons_succ, List.setIfInBounds_toArray, List.set_cons_zero, List.set_cons_succ]
  refine wpAnyH_tk (i := 2) (v := ?_) (LN := #[true, true, true, false, false, false, false, false, false, false]) rfl (by kernel_rfl) (by kernel_rfl) (by kernel_rfl) (fun _ _ _ h => h) (by kernel_rfl) (by rfl) (by assumption) ?_ ?_
  rotate_left
  · intro w hSw; (try dsimp only at hSw); first | (go_simp; done) | (go_simp; with_reducible rfl)
  try simp only [Act.put, List.getElem_toArray, List.getElem_cons_zero, List.getElem_cons_succ, List.setIfInBounds_toArray, List.set_cons_zero, List.set_cons_succ]
  refine wpAnyH_tk (i := 3) (v := ?_) (LN := #[true, true, true, true, false, false, false, false, false, false]) rfl (by kernel_rfl) (by kernel_rfl) (by kernel_rfl) (fun _ _ _ h => h) (by kernel_rfl) (by rfl) (by assumption) ?_ ?_
  rotate_left
  · intro w hSw; (try dsimp only at hSw); first | (go_simp; done) | (go_simp; with_reducible rfl)
  try simp only [Act.put, List.getElem_toArray, List.getElem_cons_zero, List.getElem_cons_succ, List.setIfInBounds_toArray, List.set_cons_zero, List.set_cons_succ]
  refine wpAnyH_tk (i := 4) (v := ?_) (LN := #[true, true, true, true, true, false, false, false, false, false]) rfl (by kernel_rfl) (by kernel_rfl) (by kernel_rfl) (fun _ _ _ h => h) (by kernel_rfl) (by rfl) (by assumption) ?_ ?_
  rotate_left
  · intro w hSw; (try dsimp only at hSw); first | (go_simp; done) | (go_simp; with_reducible rfl)
  try simp only [Act.put, List.getElem_toArray, List.getElem_cons_zero, List.getElem_cons_succ, List.setIfInBounds_toArray, List.set_cons_zero, List.set_cons_succ]
  refine wpAnyH_tk (i := 5) (v := ?_) (LN := #[true, true, true, true, true, true, false, false, false, false]) rfl (by kernel_rfl) (by kernel_rfl) (by kernel_rfl) (fun _ _ _ h => h) (by kernel_rfl) (by rfl) (by assumption) ?_ ?_
  rotate_left
  · intro w hSw; (try dsimp only at hSw); first | (go_simp; done) | (go_simp; with_reducible rfl)
  try simp only [Act.put, List.getElem_toArray, List.getElem_cons_zero, List.getElem_cons_succ, List.setIfInBounds_toArray, List.set_cons_zero, List.set_cons_succ]
  refine wpAnyH_tk (i := 6) (v := ?_) (LN := #[true, true, true, true, true, true, true, false, false, false]) rfl (by kernel_rfl) (by kernel_rfl) (by kernel_rfl) (fun _ _ _ h => h) (by kernel_rfl) (by rfl) (by assumption) ?_ ?_
  rotate_left
  · intro w hSw; (try dsimp only at hSw); first | (go_simp; done) | (go_simp; with_reducible rfl)
  try simp only [Act.put, List.getElem_toArray, List.getElem_cons_zero, List.getElem_cons_succ, List.setIfInBounds_toArray, List.set_cons_zero, List.set_cons_succ]
  refine wpAnyH_tk (i := 7) (v := ?_) (LN := #[true, true, true, true, true, true, true, true, false, false]) rfl (by kernel_rfl) (by kernel_rfl) (by kernel_rfl) (fun _ _ _ h => h) (by kernel_rfl) (by rfl) (by assumption) ?_ ?_
  rotate_left
  · intro w hSw; (try dsimp only at hSw); first | (go_simp; done) | (go_simp; with_reducible rfl)
  try simp only [Act.put, List.getElem_toArray, List.getElem_cons_zero, List.getElem_cons_succ, List.setIfInBounds_toArray, List.set_cons_zero, List.set_cons_succ]
  refine wpAnyH_tk (i := 8) (v := ?_) (LN := #[true, true, true, true, true, true, true, true, true, false]) rfl (by kernel_rfl) (by kernel_rfl) (by kernel_rfl) (fun _ _ _ h => h) (by kernel_rfl) (by rfl) (by assumption) ?_ ?_
  rotate_left
  · intro w hSw; (try dsimp only at hSw); first | (go_simp; done) | (go_simp; with_reducible rfl)
  try simp only [Act.put, List.getElem_toArray, List.getElem_cons_zero, List.getElem_cons_succ, List.setIfInBounds_toArray, List.set_cons_zero, List.set_cons_succ]
  refine wpAnyH_tk (i := 9) (v := ?_) (LN := #[true, true, true, true, true, true, true, true, true, true]) rfl (by kernel_rfl) (by kernel_rfl) (by kernel_rfl) (fun _ _ _ h => h) (by kernel_rfl) (by rfl) (by assumption) ?_ ?_
  rotate_left
  · intro w hSw; (try dsimp only at hSw); first | (go_simp; done) | (go_simp; with_reducible rfl)
  try simp only [Act.put, List.getElem_toArray, List.getElem_cons_zero, List.getElem_cons_succ, List.setIfInBounds_toArray, List.set_cons_zero, List.set_cons_succ]
  refine ⟨by kernel_rfl, ?_⟩
  try simp only [Act.put, List.getElem_toArray, List.getElem_cons_zero, List.getElem_cons_succ, List.setIfInBounds_toArray, List.set_cons_zero, List.set_cons_succ]
  go_wp2_with fail
  go_ret2
  exact ⟨rfl, S4⟩
set_option maxRecDepth 100000 in
set_option maxHeartbeats 1600000 in
theorem rbNeeds_any {W0 w : World} {L : List Asn} {g : Nat} {r : SR} {q : PQ} (S : Sat W0 w (blk g (rv r) 74 :: Qu r.qp q :: L)) (hr : r.Ok) (hme : 0 ≤ r.me ∧ r.me ≤ 1) :
    Calls Tryz.prog 22 #[.pointer (some ⟨g, 0, none⟩)] w fun e w' => e = .returned (.int .i64 (q.known (1 - r.me))) ∧ Sat W0 w' (blk g (rv r) 74 :: Qu r.qp q :: L) := by
  have hwo : IntKind.i64.wrap (1 - r.me) = 1 - r.me := by rw [IntKind.wrap_i64]; omega
  go_enter Tryz.func22, Tryz.ntmps22
  go_upto_region 3 with fail
  refine wp_region_drawn (N := 11) (LN := #[false, false, false, false, false, false, false, false, false, false, false]) (by kernel_rfl) (by kernel_rfl) (by kernel_rfl) ?_
  have S4 := S.drew
  generalize w.drew = w4 at S4 ⊢
  clear S
  have hA := r_at hr S4
  have c3 := hA.me
  have c4 := hA.qp
  clear hA
  refine wpAny_seg 0 9 2 11 #[true, true, true, true, true, true, true, true, true, false, false] (by kernel_rfl) (by kernel_rfl) ?_
  simp only [List.take_succ_cons, List.take_zero, List.drop_succ_cons, List.drop_zero]
  refine wpStill_step (fun K hK => ?_); go_simp; refine hK _ ?_; clear hK K
  try simp only [Act.put, List.getElem_toArray, List.getElem_cons_zero, List.getElem_cons_succ, List.setIfInBounds_toArray, List.set_cons_zero, List.set_cons_succ]
  refine wpStill_step (fun K hK => ?_); go_simp; refine hK _ ?_; clear hK K
  try simp only [Act.put, List.getElem_toArray, List.getElem_cons_zero, List.getElem_cons_succ, List.setIfInBounds_toArray, List.set_cons_zero, List.set_cons_succ]
  refine wpStill_step (fun K hK => ?_); go_simp; refine hK _ ?_; clear hK K
  try simp only [Act.put, List.getElem_toArray, List.getElem_cons_zero, List.getElem_cons_succ, List.setIfInBounds_toArray, List.set_cons_zero, List.set_cons_succ]
  refine wpStill_step (fun K hK => ?_); go_simp; refine hK _ ?_; clear hK K
  try simp only [Act.put, List.getElem_toArray, List.getElem_cons_zero, List.getElem_cons_succ, List.setIfInBounds_toArray, List.set_cons_zero, List.set_cons_succ]
  refine wpStill_step (fun K hK => ?_); go_simp; refine hK _ ?_; clear hK K
  try simp only [Act.put, List.getElem_toArray, List.getElem_cons_zero, List.getElem_cons_succ, List.setIfInBounds_toArray, List.set_cons_zero, List.set_cons_succ]
  refine wpStill_step (fun K hK => ?_); go_simp; refine hK _ ?_; clear hK K
  try simp only [Act.put, List.getElem_toArray, List.getElem_cons_zero, List.getElem_cons_succ, List.setIfInBounds_toArray, List.set_cons_zero, List.set_cons_succ]
  refine wpStill_step (fun K hK => ?_); go_simp; refine hK _ ?_; clear hK K
  try simp only [Act.put, List.getElem_toArray, List.getElem_cons_zero, List.getElem_cons_succ, List.setIfInBounds_toArray, List.set_cons_zero, List.set_cons_succ]
  refine wpStill_step (fun K hK => ?_); go_simp; refine hK _ ?_; clear hK K
  try simp only [Act.put, List.getElem_toArray, List.getElem_cons_zero, List.getElem_cons_succ, List.setIfInBounds_toArray, List.set_cons_zero, List.set_cons_succ]
  refine wpStill_step (fun K hK => ?_); go_simp; refine hK _ ?_; clear hK K
  try simp only [Act.put, List.getElem_toArray, List.getElem_cons_zero, List.getElem_cons_succ, List.setIfInBounds_toArray, List.set_cons_zero, List.set_cons_succ]
  refine wpStill_nil ?_
  refine wpAny_one (i := 9) (LN := #[true, true, true, true, true, true, true, true, true, true, false]) (by kernel_rfl) rfl (by kernel_rfl) ?_
  intro K hK
  go_simp
  go_at_call 42
  refine (qknown_any (S4.sel [1]) (1 - r.me)).mono ?_
  rintro e w5 ⟨rfl, rfl⟩
  go_wp2_with fail
  refine hK.out _ _ ?_
  clear hK K
  try simp only [Act.put, List.getElem_toArray, List.getElem_cons_zero, List.getElem_cons_succ, List.setIfInBounds_toArray, List.set_cons_zero, List.set_cons_succ]
  refine wpAny_loc (i := 10) (v := ?_) (LN := #[true, true, true, true, true, true, true, true, true, true, true]) rfl (by kernel_rfl) (by kernel_rfl) (by kernel_rfl) (fun _ _ _ h => h) (by kernel_rfl) (by rfl) ?_ ?_
  rotate_left
  · intro w; first | (go_simp; done) | (go_simp; with_reducible rfl)
  try simp only [Act.put, List.getElem_toArray, List.getElem_cons_zero, List.getElem_cons_succ, List.setIfInBounds_toArray, List.set_cons_zero, List.set_cons_succ]
  refine ⟨by kernel_rfl, ?_⟩
  try simp only [Act.put, List.getElem_toArray, List.getElem_cons_zero, List.getElem_cons_succ, List.setIfInBounds_toArray, List.set_cons_zero, List.set_cons_succ]
  go_wp2_with fail
  go_ret
  exact ⟨rfl, S4⟩

section
variable {W0 w : World} {L : List Asn} {g : Nat} {K : SK} {s : PS} {c : Nat}
theorem sNow_any (S : Sat W0 w (SS g K s c :: L)) : Calls Tryz.prog 19 #[.pointer (some ⟨g, 0, none⟩)] w fun e w' => e = .returned (.agg (svals (K.now s)).toArray) ∧ Sat W0 w' (SS g K s c :: L) := by
  obtain ⟨r, ring, lo, hi, u, n, m, h, S1⟩ := SS_open.1 S
  refine (rbNow_any (L := Qu r.qp s.q :: RG r.rp ring lo hi :: sps r.ua r.un r.uc u :: sis r.ca r.cn r.cc K.code :: L) S1 h.ro).mono ?_
  rintro e w' ⟨rfl, S3⟩
  exact ⟨by rw [h.now], SS_open.2 ⟨r, ring, lo, hi, u, n, m, h, S3⟩⟩
theorem sSure_any (S : Sat W0 w (SS g K s c :: L)) : Calls Tryz.prog 14 #[.pointer (some ⟨g, 0, none⟩)] w fun e w' => e = .returned (.agg (svals (K.sure s)).toArray) ∧ Sat W0 w' (SS g K s c :: L) := by
  obtain ⟨r, ring, lo, hi, u, n, m, h, S1⟩ := SS_open.1 S
  refine (rbSure_any (L := Qu r.qp s.q :: RG r.rp ring lo hi :: sps r.ua r.un r.uc u :: sis r.ca r.cn r.cc K.code :: L) S1 h.ro).mono ?_
  rintro e w' ⟨rfl, S3⟩
  exact ⟨by rw [h.sure], SS_open.2 ⟨r, ring, lo, hi, u, n, m, h, S3⟩⟩
theorem sWork_any (S : Sat W0 w (SS g K s c :: L)) : Calls Tryz.prog 18 #[.pointer (some ⟨g, 0, none⟩)] w fun e w' => e = .returned (.tuple #[.int .i64 s.st, .int .i64 s.wr]) ∧ Sat W0 w' (SS g K s c :: L) := by
  obtain ⟨r, ring, lo, hi, u, n, m, h, S1⟩ := SS_open.1 S
  refine (rbWork_any (L := Qu r.qp s.q :: RG r.rp ring lo hi :: sps r.ua r.un r.uc u :: sis r.ca r.cn r.cc K.code :: L) S1 h.ro).mono ?_
  rintro e w' ⟨rfl, S3⟩
  exact ⟨by rw [h.st.1, h.wr.1], SS_open.2 ⟨r, ring, lo, hi, u, n, m, h, S3⟩⟩
theorem sNeeds_any (S : Sat W0 w (SS g K s c :: L)) : Calls Tryz.prog 22 #[.pointer (some ⟨g, 0, none⟩)] w fun e w' => e = .returned (.int .i64 (s.q.known (1 - K.me))) ∧ Sat W0 w' (SS g K s c :: L) := by
  obtain ⟨r, ring, lo, hi, u, n, m, h, S1⟩ := SS_open.1 S
  refine (rbNeeds_any (L := RG r.rp ring lo hi :: sps r.ua r.un r.uc u :: sis r.ca r.cn r.cc K.code :: L) S1 h.ro (by rw [h.hme]; rcases h.seat with e | e <;> rw [e] <;> omega)).mono ?_
  rintro e w' ⟨rfl, S3⟩
  exact ⟨by rw [h.hme], SS_open.2 ⟨r, ring, lo, hi, u, n, m, h, S3⟩⟩
end
section
variable {W0 w : World} {L : List Asn}
set_option maxRecDepth 100000
theorem nLoc_any (S : Sat W0 w L) (x : Int) : Calls Tryz.prog 11 #[.pointer none, .int .u16 x] w fun e w' => e = .returned (.tuple #[.int .i64 0, .int .i64 1]) ∧ Sat W0 w' L := by
  have S1 := (S.alloc [.pointer none] 31).alloc [.int .u16 x] 38
  simp only [World.size_alloc] at S1
  go_enter Tryz.func11, Tryz.ntmps11
  go_wp2_with fail
  go_ret2
  exact ⟨rfl, S1.tail.tail⟩
theorem nRem_any (S : Sat W0 w L) (fr x : Int) : Calls Tryz.prog 12 #[.pointer none, .int .i64 fr, .int .u16 x] w fun e w' => e = .returned (.int .i64 1) ∧ Sat W0 w' L := by
  go_enter Tryz.func12, Tryz.ntmps12
  go_wp2_with fail
  go_ret
  exact ⟨rfl, S⟩
theorem nNow_any (S : Sat W0 w L) : Calls Tryz.prog 19 #[.pointer none] w fun e w' => e = .returned (.agg (svals VS.zero).toArray) ∧ Sat W0 w' L := by
  have S1 := S.alloc [.int .i64 0, .int .i32 0, .int .i32 0, .int .i32 0, .int .i32 0, .int .i32 0, .int .i32 0, .int .i32 0, .int .i32 0, .int .i32 0, .int .i32 0, .int .i32 0, .int .i32 0, .int .i32 0, .int .i32 0, .int .i32 0, .int .i32 0, .int .u32 0, .bool false, .int .i64 0] 46
  go_enter Tryz.func19, Tryz.ntmps19
  go_wp2_with (first
    | (refine wpList_build_to (cells := (svals VS.zero).toArray) rfl 46 _ rfl (by as_aux_lemma => kernel_rfl) ?_)
    | (refine wpList_store_sat (news := svals VS.zero) (off := 0) (n := 20) rfl 46 _ _ rfl S1 rfl rfl rfl (by decide) Tryz.sizeS (svals_one VS.zero) ?_; intro w3 S3; rw [zstore] at S3))
  exact bodyPost_ret (results_cell_sat rfl _ S3 rfl Tryz.underlying46 rfl Tryz.sizeS) rfl ⟨rfl, S3.tail⟩
theorem nSure_any (S : Sat W0 w L) : Calls Tryz.prog 14 #[.pointer none] w fun e w' => e = .returned (.agg (svals VS.zero).toArray) ∧ Sat W0 w' L := by
  have S1 := S.alloc [.int .i64 0, .int .i32 0, .int .i32 0, .int .i32 0, .int .i32 0, .int .i32 0, .int .i32 0, .int .i32 0, .int .i32 0, .int .i32 0, .int .i32 0, .int .i32 0, .int .i32 0, .int .i32 0, .int .i32 0, .int .i32 0, .int .i32 0, .int .u32 0, .bool false, .int .i64 0] 46
  go_enter Tryz.func14, Tryz.ntmps14
  go_wp2_with (first
    | (refine wpList_build_to (cells := (svals VS.zero).toArray) rfl 46 _ rfl (by as_aux_lemma => kernel_rfl) ?_)
    | (refine wpList_store_sat (news := svals VS.zero) (off := 0) (n := 20) rfl 46 _ _ rfl S1 rfl rfl rfl (by decide) Tryz.sizeS (svals_one VS.zero) ?_; intro w3 S3; rw [zstore] at S3))
  exact bodyPost_ret (results_cell_sat rfl _ S3 rfl Tryz.underlying46 rfl Tryz.sizeS) rfl ⟨rfl, S3.tail⟩
theorem nWork_any (S : Sat W0 w L) : Calls Tryz.prog 18 #[.pointer none] w fun e w' => e = .returned (.tuple #[.int .i64 0, .int .i64 0]) ∧ Sat W0 w' L := by
  go_enter Tryz.func18, Tryz.ntmps18
  go_wp2_with fail
  go_ret2
  exact ⟨rfl, S⟩
theorem nNeeds_any (S : Sat W0 w L) : Calls Tryz.prog 22 #[.pointer none] w fun e w' => e = .returned (.int .i64 0) ∧ Sat W0 w' L := by
  go_enter Tryz.func22, Tryz.ntmps22
  go_wp2_with fail
  go_ret
  exact ⟨rfl, S⟩
end
end Go.Proofs.YtjdeeloemhjbhaaGreat
end

section
namespace Go.Proofs.YtjdeeloemhjbhaaGreat
open Go.RowKit Go.Sep Go.Oct Go.Vm Go.Inp
set_option linter.unusedSimpArgs false

theorem run_build_op {P : Program} {o : Oper} {a : Act} {w : World} (t : TypeId) (parts : Array (Nat × Operand)) (ho : o.op = .build t parts) {cells : Array Value}
    (hc : P.built t (parts.map fun (i, x) => (i, a.eval x)).toList = some cells) : (execOp a.eval o).run P w = .ok (.value (.agg cells)) w := by
  unfold execOp
  simp only [ho, Sem.run_bind, Sem.run_pure, run_build w t _ cells hc, Result.andThen_ok]
theorem insv_one (l : List (Int × Int)) : ∀ u ∈ insv l, u.oneCell' = true := by
  intro u hu
  unfold insv at hu
  obtain ⟨y, hy, hu⟩ := List.mem_flatten.1 hu
  obtain ⟨x, _, rfl⟩ := List.mem_map.1 hy
  simp only [List.mem_cons, List.not_mem_nil, or_false] at hu
  rcases hu with rfl | rfl <;> rfl
def rw8 (sl : Value) (cap fuel me : Int) (qp rp : Value) : List Value := [sl, .int .i64 cap, .int .i64 fuel, .int .i64 me, qp, rp, .slice none 0 0, .int .i64 0]
def rw0 (h8 : List Value) (now sure : VS) : List Value := h8 ++ (svals now ++ (svals sure ++ [.int .i64 0, .int .i64 0]))
section
variable {h8 : List Value} {now sure : VS}
theorem rw0_length (h : h8.length = 8) (hn : (svals now).length = 20) (hs : (svals sure).length = 20) : (rw0 h8 now sure).length = 50 := by
  unfold rw0
  rw [List.length_append, List.length_append, List.length_append, h, hn, hs]; rfl
theorem rw0_now (h : h8.length = 8) (hn : (svals now).length = 20) {j : Nat} (hj : j < 20) : (rw0 h8 now sure)[8 + j]? = (svals now)[j]? := by
  unfold rw0
  rw [List.getElem?_append_right (by omega), h, show 8 + j - 8 = j by omega, List.getElem?_append_left (by omega)]
theorem rw0_setSure (h : h8.length = 8) (hn : (svals now).length = 20) (hs : (svals sure).length = 20) (t : VS) : (rw0 h8 now sure).take 28 ++ svals t ++ (rw0 h8 now sure).drop (28 + 20) = rw0 h8 now t := by
  have e1 : (rw0 h8 now sure).take 28 = h8 ++ svals now := by
    unfold rw0; rw [← List.append_assoc, List.take_left' (by rw [List.length_append, h, hn])]
  have e2 : (rw0 h8 now sure).drop (28 + 20) = [.int .i64 0, .int .i64 0] := by
    unfold rw0; rw [← List.append_assoc, ← List.append_assoc, List.drop_left' (by rw [List.length_append, List.length_append, h, hn, hs])]
  rw [e1, e2]
  unfold rw0
  simp only [List.append_assoc]
end
theorem Tryz.infoIns : (Tryz.prog.info? 95).map (fun i => (i.zero, i.size, i.bytes)) = some (some (.agg #[.int .i64 0, .int .i64 0]), 2, 16) := by kernel_rfl
theorem built52 (a : Option Addr) (n c : Nat) (cap fuel me : Int) (s : VS) (h : s.cells.length = 16) : Tryz.prog.built 74 [(0, .agg #[.slice a n c, .int .i64 cap, .int .i64 fuel]), (1, .int .i64 me), (6, .agg (svals s).toArray)] = some (rw0 (rw8 (.slice a n c) cap fuel me (.pointer none) (.pointer none)) s VS.zero).toArray := by
  obtain ⟨f, cells, seed, over, winner⟩ := s
  obtain ⟨c0, c1, c2, c3, c4, c5, c6, c7, c8, c9, c10, c11, c12, c13, c14, c15, rfl⟩ := list16 h
  kernel_rfl
theorem SK.new_RI {K : SK} (hk : checkP K.code K.cap K.fuel = 0) (hs : 0 ≤ K.seed ∧ K.seed < 4294967296) (hm : Seat K.me) (ca : Option Addr) (cc qp rp : Nat) :
    K.RI K.new 0 ⟨ca, K.code.length, cc, K.cap, K.fuel, K.me, qp, rp, none, 0, 0, 0, VS.start K.seed, VS.start K.seed, 0, 0⟩ ((List.replicate 16 VS.zero).set (0 % 16) (VS.start K.seed)) (ringLo (-1) (-1) ((0 : Nat) : Int)) ((0 : Nat) : Int) [] 0 0 := by
  obtain ⟨_, _, hc1, hc2, _, _⟩ := check_ok hk
  have hso := start_ok hs
  have hl : ringLo (-1) (-1) ((0 : Nat) : Int) = 0 := by decide
  have hro : ∀ s ∈ (List.replicate 16 VS.zero).set (0 % 16) (VS.start K.seed), s.Ok := by
    intro s h
    rcases List.mem_or_eq_of_mem_set h with h2 | rfl
    · rw [(List.mem_replicate.1 h2).2]; exact zero_ok
    · exact hso
  have hI : SInv K.code K.cap K.fuel K.seed (PQ.new K.cap.toNat) ⟨ca, K.code.length, cc, K.cap, K.fuel, K.me, qp, rp, none, 0, 0, 0, VS.start K.seed, VS.start K.seed, 0, 0⟩ ((List.replicate 16 VS.zero).set (0 % 16) (VS.start K.seed)) (ringLo (-1) (-1) ((0 : Nat) : Int)) ((0 : Nat) : Int) [] 0 0 0 :=
    ⟨rfl, rfl, rfl, rfl, rfl, ⟨Nat.le_refl _, by show 0 ≤ 600; omega⟩, rfl, ⟨by rw [hl]; omega, by rw [hl]; omega⟩, by simp, hro, fun k _ h2 => by
      obtain rfl : k = 0 := by omega
      rfl, rfl, rfl, Nat.le_refl _, rfl, ⟨Nat.le_refl _, by omega, by omega⟩, ⟨by show (0 : Int) ≤ 0; omega, by show (0 : Int) ≤ 1000000000; omega⟩⟩
  refine ⟨hI, hk, hs, ⟨hso, hso⟩, PQ.new_ok (by omega), new_rb _, ?_, rfl, hm, .inr rfl, .inr (by simp), Nat.zero_le _, fun k => ?_, Nat.zero_le _, ⟨rfl, by show (0 : Int) ≤ _; omega⟩, rfl, by show (0 : Int) ≤ 0; omega, by show (0 : Int) ≤ _; omega⟩
  · show ((K.cap.toNat : Nat) : Int) = K.cap; omega
  · have : (K.new.q.row K.me).kn = List.replicate K.cap.toNat false := by
      unfold PQ.row; split <;> rfl
    unfold isKn
    rw [this, List.getElem?_replicate]
    split <;> simp [SK.new]

set_option maxRecDepth 100000 in
set_option maxHeartbeats 3200000 in
theorem rbNew_bad {W0 w : World} {L : List Asn} (S : Sat W0 w L) {a : Option Addr} {n c : Nat} {code : List (Int × Int)} (hR : ∀ w', Sat W0 w' L → Rd w' a (insv code)) (hn : code.length = n) (hnm : n ≤ maxLen) (cap fuel seed me : Int) (hk : checkP code cap fuel ≠ 0) :
    Calls Tryz.prog 10 #[.agg #[.slice a n c, .int .i64 cap, .int .i64 fuel], .int .u32 seed, .int .i64 me] w fun e w' => e = .returned (.tuple #[.pointer none, .int .i64 (checkP code cap fuel)]) ∧ Sat W0 w' L := by
  have S1 := S.alloc [.slice a n c, .int .i64 cap, .int .i64 fuel] 24
  obtain ⟨e0, he0⟩ : ∃ e0, checkP code cap fuel = e0 := ⟨_, rfl⟩
  have HC := Lib.hid he0
  rw [he0] at hk ⊢
  have hne : (e0 != 0) = true := by simpa using hk
  clear he0 S
  go_enter Tryz.func10, Tryz.ntmps10
  go_wp2_with (first
    | (refine wpList_load_part rfl 24 _ rfl (n := 3) rfl (Sat.whole S1 3) rfl Tryz.underlying24 rfl Tryz.sizeG ?_)
    | (go_at_call 26; refine (vCheck_any S1 (fun w' h => hR w' h.tail) hn hnm cap fuel).mono ?_; rintro e w2 ⟨rfl, S2⟩; rw [HC.out]))
  go_ret2
  exact ⟨rfl, S2.tail⟩
set_option maxRecDepth 100000 in
set_option maxHeartbeats 3200000 in
theorem rbNew_seat {W0 w : World} {L : List Asn} (S : Sat W0 w L) {a : Option Addr} {n c : Nat} {code : List (Int × Int)} (hR : ∀ w', Sat W0 w' L → Rd w' a (insv code)) (hn : code.length = n) (hnm : n ≤ maxLen) (cap fuel seed me : Int) (hk : checkP code cap fuel = 0) (hm : ¬ Seat me) :
    Calls Tryz.prog 10 #[.agg #[.slice a n c, .int .i64 cap, .int .i64 fuel], .int .u32 seed, .int .i64 me] w fun e w' => e = .returned (.tuple #[.pointer none, .int .i64 1]) ∧ Sat W0 w' L := by
  have S1 := S.alloc [.slice a n c, .int .i64 cap, .int .i64 fuel] 24
  have HC := Lib.hid hk
  have h0 : (me != 0) = true := by simp only [bne_iff_ne, ne_eq]; exact fun h => hm (.inl h)
  have h1 : (me != 1) = true := by simp only [bne_iff_ne, ne_eq]; exact fun h => hm (.inr h)
  clear hk S hm
  go_enter Tryz.func10, Tryz.ntmps10
  go_wp2_with (first
    | (refine wpList_load_part rfl 24 _ rfl (n := 3) rfl (Sat.whole S1 3) rfl Tryz.underlying24 rfl Tryz.sizeG ?_)
    | (go_at_call 26; refine (vCheck_any S1 (fun w' h => hR w' h.tail) hn hnm cap fuel).mono ?_; rintro e w2 ⟨rfl, S2⟩; rw [HC.out]))
  go_ret2
  exact ⟨rfl, S2.tail⟩
set_option maxRecDepth 100000 in
set_option maxHeartbeats 6400000 in
theorem rbNew_ok {W0 w : World} {L : List Asn} (S : Sat W0 w L) {a : Option Addr} {n c : Nat} {code : List (Int × Int)} (hR : ∀ w', Sat W0 w' L → Rd w' a (insv code)) (hn : code.length = n) (cap fuel seed me : Int) (hk : checkP code cap fuel = 0) (hm : Seat me) (hsd : 0 ≤ seed ∧ seed < 4294967296) :
    Calls Tryz.prog 10 #[.agg #[.slice a n c, .int .i64 cap, .int .i64 fuel], .int .u32 seed, .int .i64 me] w fun e w' => ∃ g, e = .returned (.tuple #[.pointer (some ⟨g, 0, none⟩), .int .i64 0]) ∧ Sat W0 w' (SS g ⟨code, cap, fuel, seed, me⟩ (SK.new ⟨code, cap, fuel, seed, me⟩) 0 :: L) := by
  obtain ⟨hcl, _, hc1, hc2, _, _⟩ := check_ok hk
  have hnm : n ≤ maxLen := by unfold maxLen; omega
  have S1 := S.alloc [.slice a n c, .int .i64 cap, .int .i64 fuel] 24
  have HC := Lib.hid hk
  have HN := Lib.hid hn
  have hso := start_ok hsd
  have HSO := Lib.hid hso
  have HB := Lib.hid (fun m => built52 a n c cap fuel m (VS.start seed) hso.len)
  have HTL := Lib.hid (svals_length hso.len)
  have HZL : Hid ((svals VS.zero).length = 20) := rfl
  have HIP : Hid (isP (VS.start seed) = true) := isP_goes hk (goes_start hk hsd)
  have HRI := Lib.hid (SK.new_RI (K := ⟨code, cap, fuel, seed, me⟩) hk hsd hm)
  have HR : Hid (∀ w', Sat W0 w' L → Rd w' a (insv code)) := hR
  obtain ⟨cp, rfl⟩ : ∃ cp : Nat, cap = cp := ⟨cap.toNat, by omega⟩
  obtain ⟨i0, hi0, hz0, hz1, hz2⟩ := info_parts Tryz.infoIns
  obtain ⟨T, hT⟩ : ∃ T, VS.start seed = T := ⟨_, rfl⟩
  rw [hT] at HB HTL HSO HIP
  have HT := Lib.hid hT
  clear hk S hso hT hR hn
  go_enter Tryz.func10, Tryz.ntmps10
  go_upto_region 4 with (first
    | (refine wpList_load_part rfl 24 _ rfl (n := 3) rfl (Sat.whole S1 3) rfl Tryz.underlying24 rfl Tryz.sizeG ?_)
    | (go_at_call 26; refine (vCheck_any S1 (fun w' h => HR.out w' h.tail) HN.out hnm cp fuel).mono ?_; rintro e w2 ⟨rfl, S2⟩; rw [HC.out]))
  rcases hm with hm | hm
  have hm0 : (me != 0) = false := by rw [hm]; rfl
  rotate_left
  have hm0 : (me != 0) = true := by rw [hm]; rfl
  have hm1 : (me != 1) = false := by rw [hm]; rfl
  rotate_left
  all_goals
    clear hm
    go_upto_region 6 with fail
  all_goals
    generalize w.heap.size = gp at S2 ⊢
    refine wp_region_drawn (N := 7) (LN := #[false, false, false, false, false, false, false]) (by kernel_rfl) (by kernel_rfl) (by kernel_rfl) ?_
    have S4 := S2.drew
    generalize w2.drew = w4 at S4 ⊢
    clear S1 S2
    refine wpAny_held (fun w' => ∀ j, j < 3 → w'.cell? ⟨gp, 0 + j, none⟩ = ([.slice a n c, .int .i64 cp, .int .i64 fuel] : List Value)[j]?) (Sat.whole S4 3) (fun hHeld => ?_)
    refine wpAnyH_tk (i := 0) (LN := #[true, false, false, false, false, false, false]) rfl (by kernel_rfl) (by kernel_rfl) (by kernel_rfl) (fun _ _ _ h => h) (by kernel_rfl) (by rfl) (by assumption) (fun w h => run_load_part 24 _ rfl (g := gp) (off := 0) (n := 3) rfl (h) rfl Tryz.underlying24 rfl (by kernel_rfl)) ?_
    try simp only [Act.put, List.getElem_toArray, List.getElem_cons_zero, List.getElem_cons_succ, List.setIfInBounds_toArray, List.set_cons_zero, List.set_cons_succ]
    refine wpAnyH_tk (i := 1) (v := ?_) (LN := #[true, true, false, false, false, false, false]) rfl (by kernel_rfl) (by kernel_rfl) (by kernel_rfl) (fun _ _ _ h => h) (by kernel_rfl) (by rfl) (by assumption) ?_ ?_
    rotate_left
    · intro w hSw; (try dsimp only at hSw); first | (go_simp; done) | (go_simp; with_reducible rfl)
    try simp only [Act.put, List.getElem_toArray, List.getElem_cons_zero, List.getElem_cons_succ, List.setIfInBounds_toArray, List.set_cons_zero, List.set_cons_succ]
    refine wpAnyH_tk (i := 2) (v := ?_) (LN := #[true, true, true, false, false, false, false]) rfl (by kernel_rfl) (by kernel_rfl) (by kernel_rfl) (fun _ _ _ h => h) (by kernel_rfl) (by rfl) (by assumption) ?_ ?_
    rotate_left
    · intro w hSw; (try dsimp only at hSw); first | (go_simp; done) | (go_simp; with_reducible rfl)
    try simp only [Act.put, List.getElem_toArray, List.getElem_cons_zero, List.getElem_cons_succ, List.setIfInBounds_toArray, List.set_cons_zero, List.set_cons_succ]
    refine wpAnyH_one (i := 3) (LN := #[true, true, true, true, false, false, false]) (by kernel_rfl) rfl (by kernel_rfl) ?_
    intro K hK
    go_simp
    go_at_call 27
    refine (vStart_any S4 seed hsd).mono ?_
    unfold StartsAt
    rw [HT.out]
    rintro e w5 ⟨rfl, S5⟩
    go_wp2_with fail
    refine hK.out _ _ (Sat.whole S5 3) ?_
    clear hK K hHeld
    intro hHeld
    try simp only [Act.put, List.getElem_toArray, List.getElem_cons_zero, List.getElem_cons_succ, List.setIfInBounds_toArray, List.set_cons_zero, List.set_cons_succ]
    refine wpAnyH_tk (i := 4) (LN := #[true, true, true, true, true, false, false]) rfl (by kernel_rfl) (by kernel_rfl) (by kernel_rfl) (fun _ _ _ h => h) (by kernel_rfl) (by rfl) (by assumption) (fun w h => run_build_op 74 _ rfl (Eq.trans (congrArg (Tryz.prog.built 74) (show _ = [(0, Value.agg #[.slice a n c, .int .i64 cp, .int .i64 fuel]), (1, Value.int .i64 me), (6, Value.agg (svals T).toArray)] by kernel_rfl)) (HB.out me))) ?_
    try simp only [Act.put, List.getElem_toArray, List.getElem_cons_zero, List.getElem_cons_succ, List.setIfInBounds_toArray, List.set_cons_zero, List.set_cons_succ]
    refine wpAnyH_one (i := 5) (LN := #[true, true, true, true, true, true, false]) (by kernel_rfl) rfl (by kernel_rfl) ?_
    intro K hK
    go_simp
    have S6 := S5.alloc (rw0 (rw8 (.slice a n c) cp fuel me (.pointer none) (.pointer none)) T VS.zero) 74
    refine hK.out _ _ (Sat.whole (S6.sel [1]) 3) ?_
    clear hK K hHeld
    intro hHeld
    try simp only [Act.put, List.getElem_toArray, List.getElem_cons_zero, List.getElem_cons_succ, List.setIfInBounds_toArray, List.set_cons_zero, List.set_cons_succ]
    refine wpAnyH_tk (i := 6) (v := ?_) (LN := #[true, true, true, true, true, true, true]) rfl (by kernel_rfl) (by kernel_rfl) (by kernel_rfl) (fun _ _ _ h => h) (by kernel_rfl) (by rfl) (by assumption) ?_ ?_
    rotate_left
    · intro w hSw; (try dsimp only at hSw); first | (go_simp; done) | (go_simp; with_reducible rfl)
    try simp only [Act.put, List.getElem_toArray, List.getElem_cons_zero, List.getElem_cons_succ, List.setIfInBounds_toArray, List.set_cons_zero, List.set_cons_succ]
    refine ⟨by kernel_rfl, ?_⟩
    try simp only [Act.put, List.getElem_toArray, List.getElem_cons_zero, List.getElem_cons_succ, List.setIfInBounds_toArray, List.set_cons_zero, List.set_cons_succ]
  all_goals
    generalize w5.heap.size = sp at S6 ⊢
    have hl8 : (rw8 (.slice a n c) cp fuel me (.pointer none) (.pointer none)).length = 8 := rfl
    change Sat W0 (World.alloc w5 _) _ at S6
    generalize World.alloc w5 _ = w6 at S6 ⊢
    clear S4 S5
    have hc0 := S6.cell 1 rfl 0
    simp only [List.getElem?_cons_zero] at hc0
    go_upto_region 8 with (first
      | (at_builtin; refine wpList_append_sat rfl _ _ _ rfl 95 i0 _ 2 16 Tryz.underlying22 hi0 hz0 hz1 hz2 rfl (by decide) (Sat.own_none.2 ⟨rfl, rfl, rfl, S6⟩ : Sat W0 w6 (slc 95 2 none 0 0 [] :: blk sp _ _ :: blk gp _ _ :: L)) rfl rfl (HR.out w6 S6.tail.tail) (by rw [insv_length, HN.out]) (insv_one _) (by omega) (by have := HN.out; omega) ?_; intro ca cc w7 S7; rw [Nat.zero_add, List.nil_append] at S7; rw [Nat.zero_add]; have hz := S7.frozen 1 rfl 0; have hcc := S7.cell 1 rfl 0))
    have S8 := S7.setCell (k := 0) (v := .slice ca n cc) 1 rfl
    generalize World.setCell w7 _ _ = w8 at S8 ⊢
    have S9 : Sat W0 w8 (blk sp (rw0 (rw8 (.slice ca n cc) cp fuel me (.pointer none) (.pointer none)) T VS.zero) 74 :: sis ca n cc code :: blk gp [.slice a n c, .int .i64 cp, .int .i64 fuel] 24 :: L) := S8.sel [1]
    have HL8 : Hid (∀ sl qp rp, (rw8 sl cp fuel me qp rp).length = 8) := fun _ _ _ => rfl
    have HC8 := Lib.hid (fun j (hj : j < 20) => (S9.cell 0 rfl (8 + j)).trans (rw0_now (HL8.out _ _ _) HTL.out hj))
    clear hl8 hz hcc hc0 S6 S7 S8
    go_upto_region 9 with (first
      | (refine wpList_load_part rfl 46 _ rfl (n := 20) rfl HC8.out HTL.out Tryz.underlying46 rfl Tryz.sizeS ?_)
      | (refine wpList_store_sat (off := 28) (n := 20) rfl 46 _ _ rfl S9 rfl rfl HTL.out (by rw [rw0_length (HL8.out _ _ _) HTL.out HZL.out]; omega) Tryz.sizeS (svals_one T) ?_; intro w10 S10; rw [rw0_setSure (HL8.out _ _ _) HTL.out HZL.out] at S10))
    clear HC8 S9
    have hc1 := S10.cell 2 rfl 1
    simp only [List.getElem?_cons_zero, List.getElem?_cons_succ] at hc1
    go_upto_region 10 with (first
      | (go_at_call 28; refine (qnew_any S10 cp (by omega) (by omega)).mono ?_; rintro e w11 ⟨qp, rfl, S11⟩; have hz := S11.frozen 1 rfl 4; have hcc := S11.cell 1 rfl 4))
    have S12 := S11.setCell (k := 4) (v := .pointer (some ⟨qp, 0, none⟩)) 1 rfl
    generalize World.setCell w11 _ _ = w12 at S12 ⊢
    clear hz hcc hc1
    go_upto_region 11 with (first
      | (go_at_call 29; refine (ringNew_any S12).mono ?_; rintro e w13 ⟨rp, rfl, S13⟩; have hz := S13.frozen 2 rfl 5; have hcc := S13.cell 2 rfl 5))
    have S14 := S13.setCell (k := 5) (v := .pointer (some ⟨rp, 0, none⟩)) 2 rfl
    generalize World.setCell w13 _ _ = w14 at S14 ⊢
    clear hz hcc S10 S11 S12 S13
    have S15 : Sat W0 w14 (RG rp (List.replicate 16 VS.zero) (-1) (-1) :: Qu qp (PQ.new cp) :: blk sp (rw0 (rw8 (.slice ca n cc) cp fuel me (.pointer (some ⟨qp, 0, none⟩)) (.pointer (some ⟨rp, 0, none⟩))) T T) 74 :: sis ca n cc code :: blk gp [.slice a n c, .int .i64 cp, .int .i64 fuel] 24 :: L) := S14
    clear S14
    refine wp_region_drawn (N := 9) (LN := #[false, false, false, false, false, false, false, false, false]) (by kernel_rfl) (by kernel_rfl) (by kernel_rfl) ?_
    have S16 := S15.drew
    generalize w14.drew = w16 at S16 ⊢
    clear S15
    have hc5 : w16.cell? ⟨sp, 5, none⟩ = some (.pointer (some ⟨rp, 0, none⟩)) := S16.cell 2 rfl 5
    have HC8 := Lib.hid (fun j (hj : j < 20) => (S16.cell 2 rfl (8 + j)).trans (rw0_now (HL8.out _ _ _) HTL.out hj))
    refine wpAny_seg 0 8 1 9 #[true, true, true, true, true, true, true, true, false] (by kernel_rfl) (by kernel_rfl) ?_
    simp only [List.take_succ_cons, List.take_zero, List.drop_succ_cons, List.drop_zero]
    refine wpStill_step (fun K hK => ?_); go_simp; refine hK _ ?_; clear hK K
    try simp only [Act.put, List.getElem_toArray, List.getElem_cons_zero, List.getElem_cons_succ, List.setIfInBounds_toArray, List.set_cons_zero, List.set_cons_succ]
    refine wpStill_step (fun K hK => ?_); go_simp; refine hK _ ?_; clear hK K
    try simp only [Act.put, List.getElem_toArray, List.getElem_cons_zero, List.getElem_cons_succ, List.setIfInBounds_toArray, List.set_cons_zero, List.set_cons_succ]
    refine wpStill_step (fun K hK => ?_); go_simp; refine hK _ ?_; clear hK K
    try simp only [Act.put, List.getElem_toArray, List.getElem_cons_zero, List.getElem_cons_succ, List.setIfInBounds_toArray, List.set_cons_zero, List.set_cons_succ]
    refine wpStill_step (fun K hK => ?_); go_simp; refine hK _ ?_; clear hK K
    try simp only [Act.put, List.getElem_toArray, List.getElem_cons_zero, List.getElem_cons_succ, List.setIfInBounds_toArray, List.set_cons_zero, List.set_cons_succ]
    refine wpStill_step (fun K hK => ?_); go_simp; refine hK _ ?_; clear hK K
    try simp only [Act.put, List.getElem_toArray, List.getElem_cons_zero, List.getElem_cons_succ, List.setIfInBounds_toArray, List.set_cons_zero, List.set_cons_succ]
    refine wpStill_step (fun K hK => ?_); go_simp; refine hK _ ?_; clear hK K
    try simp only [Act.put, List.getElem_toArray, List.getElem_cons_zero, List.getElem_cons_succ, List.setIfInBounds_toArray, List.set_cons_zero, List.set_cons_succ]
    refine wpStill_step (fun K hK => ?_); go_simp; refine hK _ ?_; clear hK K
    try simp only [Act.put, List.getElem_toArray, List.getElem_cons_zero, List.getElem_cons_succ, List.setIfInBounds_toArray, List.set_cons_zero, List.set_cons_succ]
    refine wpStill_step (fun K hK => ?_); refine still_load_part rfl 46 _ rfl (n := 20) rfl HC8.out HTL.out Tryz.underlying46 rfl Tryz.sizeS ?_; refine hK _ ?_; clear hK K
    try simp only [Act.put, List.getElem_toArray, List.getElem_cons_zero, List.getElem_cons_succ, List.setIfInBounds_toArray, List.set_cons_zero, List.set_cons_succ]
    refine wpStill_nil ?_
    refine wpAny_one (i := 8) (LN := #[true, true, true, true, true, true, true, true, true]) (by kernel_rfl) rfl (by kernel_rfl) ?_
    intro K hK
    go_simp
    go_at_call 30
    refine (ringPut_any S16 (by simp) (fun s h => by rw [(List.mem_replicate.1 h).2]; exact zero_ok) HSO.out HIP.out (.inl (by omega)) (by omega) (f := 0) (by rw [← HT.out]; rfl)).mono ?_
    rintro e w17 ⟨rfl, S17⟩
    go_wp2_with fail
    refine hK.out _ _ ?_
    clear hK K
    try simp only [Act.put, List.getElem_toArray, List.getElem_cons_zero, List.getElem_cons_succ, List.setIfInBounds_toArray, List.set_cons_zero, List.set_cons_succ]
    refine ⟨by kernel_rfl, ?_⟩
    try simp only [Act.put, List.getElem_toArray, List.getElem_cons_zero, List.getElem_cons_succ, List.setIfInBounds_toArray, List.set_cons_zero, List.set_cons_succ]
    clear hc5 HC8 S16
    go_wp2_with fail
    go_ret2
    have S18 : Sat W0 w17 (RA sp ⟨ca, code.length, cc, cp, fuel, me, qp, rp, none, 0, 0, 0, VS.start seed, VS.start seed, 0, 0⟩ (PQ.new (cp : Int).toNat) ((List.replicate 16 VS.zero).set (0 % 16) (VS.start seed)) (ringLo (-1) (-1) ((0 : Nat) : Int)) ((0 : Nat) : Int) [] code ++ L) := by
      rw [HT.out, HN.out, Int.toNat_natCast]
      exact ((Sat.own_none.2 ⟨rfl, rfl, rfl, (S17.sel [4]).tail⟩ : Sat W0 w17 (sps none 0 0 [] :: _)).sel [3, 2, 1, 0, 0])
    exact ⟨sp, rfl, SS_open.2 ⟨_, _, _, _, _, 0, 0, HRI.out ca cc qp rp, S18⟩⟩
end Go.Proofs.YtjdeeloemhjbhaaGreat
end

section
namespace Go.Proofs.YtjdeeloemhjbhaaGreat
open Go.RowKit Go.Sep Go.Vm Go.Inp
set_option linter.unusedSimpArgs false

set_option maxRecDepth 100000 in
set_option maxHeartbeats 1600000 in
theorem radder_any {W0 w : World} {L : List Asn} (S : Sat W0 w L) (limit : Int) :
    Calls Tryz.prog 25 #[.int .i64 limit] w fun e w' => ∃ g, e = .returned (.agg #[.slice (some ⟨g, 0, none⟩) 8 8, .int .i64 limit, .int .i64 20]) ∧ Sat W0 w' (blk g (insv bcode) 95 :: L) := by
  have S1 := (S.alloc [.slice (some ⟨w.heap.size + 1, 0, none⟩) 8 8, .int .i64 limit, .int .i64 20] 24).alloc (insv bcode) 95
  simp only [World.size_alloc] at S1
  go_enter Tryz.func25, Tryz.ntmps25
  go_wp2_with fail
  exact bodyPost_ret (results_cell_sat rfl _ (S1.sel [1]) rfl Tryz.underlying24 rfl (by kernel_rfl)) rfl ⟨_, rfl, (S1.sel [1]).tail⟩
section
variable {W0 w : World} {L : List Asn} {g c : Nat} {limit : Nat} {me : Int} {d t : Nat} {x y st wr : Int}
theorem bNew_any (S : Sat W0 w (blk g (insv bcode) 95 :: L)) (hl : 1 ≤ limit ∧ limit ≤ 200) (h : Seat me) (x y : Int) :
    Calls Tryz.prog 10 #[.agg #[.slice (some ⟨g, 0, none⟩) 8 8, .int .i64 limit, .int .i64 20], .int .u32 1, .int .i64 me] w fun e w' => ∃ s, e = .returned (.tuple #[.pointer (some ⟨s, 0, none⟩), .int .i64 0]) ∧ Sat W0 w' (SS s (BK limit me) (BS limit me 0 0 x y 0 0) 0 :: blk g (insv bcode) 95 :: L) := by
  refine (rbNew_ok S (a := some ⟨g, 0, none⟩) (n := 8) (c := 8) (code := bcode) (fun w' h => Rd.lit (h.block 0 rfl).1) rfl limit 20 1 me (bcheck (by omega)) h (by omega)).mono ?_
  rintro e w' ⟨s, rfl, S2⟩
  refine ⟨s, rfl, ?_⟩
  rw [← BK_new h]
  exact S2
theorem bLoc_any (S : Sat W0 w (SS g (BK limit me) (BS limit me d t x y st wr) c :: L)) (hc : c ≤ 10000) (hl : 1 ≤ limit ∧ limit ≤ 200) (h : Seat me) (hx : 0 ≤ x ∧ x < 65536) (hy : 0 ≤ y ∧ y < 65536) (hd : d < limit) (ht : t ≤ limit) (h8 : d < min d t + 8) :
    Calls Tryz.prog 11 #[.pointer (some ⟨g, 0, none⟩), .int .u16 x] w fun e w' => e = .returned (.tuple #[.int .i64 d, .int .i64 0]) ∧ Sat W0 w' (SS g (BK limit me) (BS limit me (d + 1) t x y (st + 1) wr) (c + 1) :: L) := by
  refine (sLoc_any S hc hx).mono ?_
  unfold Loced
  rw [BK_loc hl h hx hy hd ht h8]
  rintro e w' ⟨rfl, S2⟩
  exact ⟨rfl, S2⟩
theorem bLocFar_any (S : Sat W0 w (SS g (BK limit me) (BS limit me d t x y st wr) c :: L)) (hc : c ≤ 10000) (hl : 1 ≤ limit ∧ limit ≤ 200) (h : Seat me) (hx : 0 ≤ x ∧ x < 65536) (hy : 0 ≤ y ∧ y < 65536) (hd : d < limit) (ht : t ≤ limit) (h8 : min d t + 8 ≤ d) :
    Calls Tryz.prog 11 #[.pointer (some ⟨g, 0, none⟩), .int .u16 x] w fun e w' => e = .returned (.tuple #[.int .i64 0, .int .i64 13]) ∧ Sat W0 w' (SS g (BK limit me) (BS limit me d t x y st wr) (c + 1) :: L) := by
  refine (sLoc_any S hc hx).mono ?_
  unfold Loced
  rw [BK_loc_far hl h hx hy hd ht h8]
  rintro e w' ⟨rfl, S2⟩
  exact ⟨rfl, S2⟩
theorem bLocOver_any (S : Sat W0 w (SS g (BK limit me) (BS limit me limit t x y st wr) c :: L)) (hc : c ≤ 10000) (hl : 1 ≤ limit ∧ limit ≤ 200) (h : Seat me) (hx : 0 ≤ x ∧ x < 65536) (hy : 0 ≤ y ∧ y < 65536) :
    Calls Tryz.prog 11 #[.pointer (some ⟨g, 0, none⟩), .int .u16 x] w fun e w' => e = .returned (.tuple #[.int .i64 0, .int .i64 12]) ∧ Sat W0 w' (SS g (BK limit me) (BS limit me limit t x y st wr) (c + 1) :: L) := by
  refine (sLoc_any S hc hx).mono ?_
  unfold Loced
  rw [BK_loc_over hl h hx hy]
  rintro e w' ⟨rfl, S2⟩
  exact ⟨rfl, S2⟩
/-- told at the frame t: a guess that is right -/
theorem bRem_any (S : Sat W0 w (SS g (BK limit me) (BS limit me d t x y st wr) c :: L)) (hc : c ≤ 10000) (hl : 1 ≤ limit ∧ limit ≤ 200) (h : Seat me) (hx : 0 ≤ x ∧ x < 65536) (hy : 0 ≤ y ∧ y < 65536) (hd : d ≤ limit) (ht : t < limit) (h24 : t ≤ min d t + 24) (hr : d ≤ t ∨ 0 < t) :
    Calls Tryz.prog 12 #[.pointer (some ⟨g, 0, none⟩), .int .i64 t, .int .u16 y] w fun e w' => e = .returned (.int .i64 0) ∧ Sat W0 w' (SS g (BK limit me) (BS limit me d (t + 1) x y st wr) (c + 1) :: L) := by
  refine (sRem_any S hc t hy).mono ?_
  unfold Remed
  rw [BK_rem hl h hx hy hd ht h24, if_neg (by omega)]
  rintro e w' ⟨rfl, S2⟩
  exact ⟨rfl, S2⟩
theorem bRemWrong_any (S : Sat W0 w (SS g (BK limit me) (BS limit me d 0 x y st wr) c :: L)) (hc : c ≤ 10000) (hl : 1 ≤ limit ∧ limit ≤ 200) (h : Seat me) (hx : 0 ≤ x ∧ x < 65536) (hy : 0 < y ∧ y < 65536) (hd : d ≤ limit) (hr : 0 < d) :
    Calls Tryz.prog 12 #[.pointer (some ⟨g, 0, none⟩), .int .i64 0, .int .u16 y] w fun e w' => e = .returned (.int .i64 0) ∧ Sat W0 w' (SS g (BK limit me) (BS limit me d 1 x y (st + d) (wr + 1)) (c + 1) :: L) := by
  refine (sRem_any S hc ((0 : Nat) : Int) (by omega)).mono ?_
  unfold Remed
  rw [BK_rem hl h hx (by omega) hd (by omega) (by omega), if_pos ⟨hr, rfl, by omega⟩, show st + (d : Int) - ((0 : Nat) : Int) = st + d by omega]
  rintro e w' ⟨rfl, S2⟩
  exact ⟨rfl, S2⟩
/-- a frame behind the cap -/
theorem bRemArg_any (S : Sat W0 w (SS g (BK limit me) (BS limit me d t x y st wr) c :: L)) (hc : c ≤ 10000) {fr z : Int} (hf : limit ≤ fr) (hz : 0 ≤ z ∧ z < 65536) :
    Calls Tryz.prog 12 #[.pointer (some ⟨g, 0, none⟩), .int .i64 fr, .int .u16 z] w fun e w' => e = .returned (.int .i64 1) ∧ Sat W0 w' (SS g (BK limit me) (BS limit me d t x y st wr) (c + 1) :: L) := by
  refine (sRem_any S hc fr hz).mono ?_
  unfold Remed
  have e : (BK limit me).rem (BS limit me d t x y st wr) fr z = (1, BS limit me d t x y st wr) := by unfold SK.rem; rw [if_pos (.inr (by show (limit : Int) ≤ fr; omega))]
  rw [e]
  rintro e w' ⟨rfl, S2⟩
  exact ⟨rfl, S2⟩
/-- all is sure -/
theorem bRemOver_any (S : Sat W0 w (SS g (BK limit me) (BS limit me limit limit x y st wr) c :: L)) (hc : c ≤ 10000) (hl : 1 ≤ limit ∧ limit ≤ 200) (h : Seat me) (hx : 0 ≤ x ∧ x < 65536) (hy : 0 ≤ y ∧ y < 65536) {fr z : Int} (hf : 0 ≤ fr ∧ fr < limit) (hz : 0 ≤ z ∧ z < 65536) :
    Calls Tryz.prog 12 #[.pointer (some ⟨g, 0, none⟩), .int .i64 fr, .int .u16 z] w fun e w' => e = .returned (.int .i64 12) ∧ Sat W0 w' (SS g (BK limit me) (BS limit me limit limit x y st wr) (c + 1) :: L) := by
  refine (sRem_any S hc fr hz).mono ?_
  unfold Remed
  have h2 := BK_sure (st := st) (wr := wr) (d := limit) (t := limit) hl h hx hy (Nat.le_refl _) (Nat.le_refl _)
  have e : (BK limit me).rem (BS limit me limit limit x y st wr) fr z = (12, BS limit me limit limit x y st wr) := by unfold SK.rem; rw [if_neg (by show ¬ (fr < 0 ∨ (limit : Int) ≤ fr); omega), if_pos (by rw [h2.2]; simp)]
  rw [e]
  rintro e w' ⟨rfl, S2⟩
  exact ⟨rfl, S2⟩
end
/-- a state's cells, one by one -/
def bsv (f a b : Int) (sd : Int) (ov : Bool) (wn : Int) : List Value := [.int .i64 f, .int .i32 a, .int .i32 b, .int .i32 0, .int .i32 0, .int .i32 0, .int .i32 0, .int .i32 0, .int .i32 0, .int .i32 0, .int .i32 0, .int .i32 0, .int .i32 0, .int .i32 0, .int .i32 0, .int .i32 0, .int .i32 0, .int .u32 sd, .bool ov, .int .i64 wn]
theorem bsv_eq {s : VS} {a b : Int} (h : s.cells = (bst 0 a b).cells) : svals s = bsv s.frame a b s.seed s.over s.winner := by
  obtain ⟨f, cells, seed, over, winner⟩ := s
  simp only at h
  subst h
  rfl
/-- the cells by themselves -/
def bcv (a b : Int) : List Value := [.int .i32 a, .int .i32 b, .int .i32 0, .int .i32 0, .int .i32 0, .int .i32 0, .int .i32 0, .int .i32 0, .int .i32 0, .int .i32 0, .int .i32 0, .int .i32 0, .int .i32 0, .int .i32 0, .int .i32 0, .int .i32 0]
theorem fld0 (f a b sd : Int) (ov : Bool) (wn : Int) (w : World) : (Instr.field 46 (.agg (bsv f a b sd ov wn).toArray) 0).run Tryz.prog w = .ok (.int .i64 f) w := by kernel_rfl
theorem fld1 (f a b sd : Int) (ov : Bool) (wn : Int) (w : World) : (Instr.field 46 (.agg (bsv f a b sd ov wn).toArray) 1).run Tryz.prog w = .ok (.agg (bcv a b).toArray) w := by kernel_rfl
set_option maxRecDepth 100000 in
theorem idx1 (a b : Int) (w : World) : (Instr.index 44 (.agg (bcv a b).toArray) (.int .i64 1)).run Tryz.prog w = .ok (.int .i32 b) w := by
  obtain ⟨inf, hinf⟩ : ∃ inf, Tryz.prog.info? 21 = some inf := ⟨_, rfl⟩
  exact run_index_array w (i := 1) (n := 16) (by kernel_rfl) (by decide) hinf (by kernel_rfl) (by kernel_rfl) rfl
set_option maxRecDepth 100000 in
set_option maxHeartbeats 3200000 in
theorem lknown_any {W0 w : World} {L : List Asn} (S : Sat W0 w L) :
    Calls Tryz.prog 9 #[] w fun e w' => e = .returned (.bool true) ∧ Sat W0 w' L := by
  have HS : Hid (svals ((BK 20 0).sure (BS 20 0 2 2 1 5 4 1)) = bsv 2 2 10 1 false 0) := by
    show _ = _
    kernel_rfl
  have HW : Hid (svals ((BK 20 0).now (BS 20 0 2 2 1 5 4 1)) = bsv 2 2 10 1 false 0) := by
    show _ = _
    kernel_rfl
  have hf0 := fld0 2 2 10 1 false 0
  have hf1 := fld1 2 2 10 1 false 0
  have hix := idx1 2 10
  go_enter Tryz.func9, Tryz.ntmps9
  go_upto_region 9 with (first
    | (go_at_call 25; refine (radder_any S 20).mono ?_; rintro e w2 ⟨g, rfl, S2⟩)
    | (go_at_call 10; refine (bNew_any (limit := 20) (me := 0) S2 (by omega) (.inl rfl) 1 5).mono ?_; rintro e w3 ⟨s, rfl, S3⟩)
    | (go_at_call 12; refine (bRem_any S6 (by omega) (by omega) (.inl rfl) (by omega) (by omega) (by omega) (by omega) (by omega) (.inr (by omega))).mono ?_; rintro e w7 ⟨rfl, S7⟩)
    | (go_at_call 12; refine (bRemWrong_any S5 (by omega) (by omega) (.inl rfl) (by omega) (by omega) (by omega) (by omega)).mono ?_; rintro e w6 ⟨rfl, S6⟩)
    | (go_at_call 11; refine (bLoc_any S4 (by omega) (by omega) (.inl rfl) (by omega) (by omega) (by omega) (by omega) (by omega)).mono ?_; rintro e w5 ⟨rfl, S5⟩)
    | (go_at_call 11; refine (bLoc_any S3 (by omega) (by omega) (.inl rfl) (by omega) (by omega) (by omega) (by omega) (by omega)).mono ?_; rintro e w4 ⟨rfl, S4⟩)
    | (go_at_call 18; refine (sWork_any S7).mono ?_; rintro e w8 ⟨rfl, S8⟩))
  have S8a : Sat W0 w8 (SS s (BK 20 0) (BS 20 0 2 2 1 5 4 1) 4 :: blk g (insv bcode) 95 :: L) := S8
  clear S2 S3 S4 S5 S6 S7 S8
  go_wp2_with (first
    | (go_at_call 19; refine (sNow_any S9).mono ?_; rw [HW.out]; rintro e w10 ⟨rfl, S10⟩)
    | (go_at_call 14; refine (sSure_any S8a).mono ?_; rw [HS.out]; rintro e w9 ⟨rfl, S9⟩))
  go_ret
  exact ⟨rfl, S10.tail.tail⟩
end Go.Proofs.YtjdeeloemhjbhaaGreat
end
