/-
  RbK, RbSl, RbI2 in one text (wip/tools/squeeze.py)
-/
import Derived.Test.YtjdeeloemhjbhaaGreatQRbD1
import Derived.Test.YtjdeeloemhjbhaaGreatQRbY

section
namespace Go.Proofs.YtjdeeloemhjbhaaGreat
open Go.RowKit Go.Sep Go.Vm Go.Inp
set_option linter.unusedSimpArgs false

theorem pv_pairsv : ∀ l : List (Int × Int), pv l = pairsv l
  | [] => rfl
  | x :: r => by
    rw [show pairsv (x :: r) = .int .u16 x.1 :: .int .u16 x.2 :: pairsv r from rfl, ← pv_pairsv r]; rfl
theorem play_stL {code : List (Int × Int)} {cap fuel seed : Int} (hk : checkP code cap fuel = 0) (l : List (Int × Int)) : playP code cap fuel seed l = (stL code cap fuel seed l, 0) := by
  unfold playP; rw [if_pos hk]; rfl
/-- what holds of both sides' Session, plain -/
structure SK.Good (J : SK) (s : PS) (c : Nat) : Prop where
  hk : checkP J.code J.cap J.fuel = 0
  hs : 0 ≤ J.seed ∧ J.seed < 4294967296
  qo : s.q.ok
  qr : RBQ s.q
  qn : (s.q.n : Int) = J.cap
  seat : Seat J.me
  own : ∀ k, isKn (s.q.row J.me) k = decide (k < s.d)
  dn : s.d ≤ s.q.n
  st : 0 ≤ s.st ∧ s.st ≤ 1000 * c
  wr : 0 ≤ s.wr ∧ s.wr ≤ c
theorem SS_good {W0 w : World} {L : List Asn} {g : Nat} {J : SK} {s : PS} {c : Nat} (S : Sat W0 w (SS g J s c :: L)) : J.Good s c := by
  obtain ⟨r, ring, lo, hi, u, n, m, h, S1⟩ := SS_open.1 S
  have h1 := h.st
  have h2 := h.inv.st
  exact ⟨h.hk, h.hs, h.qo, h.qr, h.qn, h.seat, h.own, h.dn, ⟨by rw [← h1.1]; exact h2.1, h1.2⟩, h.wr.2⟩
theorem SK.Good.room {J : SK} {s : PS} {c : Nat} (G : J.Good s c) (ho : (J.now s).over = false) : s.d < s.q.n := by
  have g := stA_goes G.hk G.hs (rbq_qb G.qr) s.d
  have h1 := g.1.room ho
  have h2 := g.2.2 ho
  have h3 := G.qn
  omega
theorem inAt_tellR {r : PRow} {n f : Nat} {x : Int} (h : r.ok n) (hf : f < n) (k : Nat) : inAt (tellR r f x) k = if k = f then x else inAt r k := inAt_set h hf k

def allP (me : Int) (mine his : List Int) (T : Nat) : List (Int × Int) := (List.range T).map fun i => if me = 0 then (mine[i]?.getD 0, his[i]?.getD 0) else (his[i]?.getD 0, mine[i]?.getD 0)
theorem allP_succ (me : Int) (mine his : List Int) (T : Nat) : allP me mine his (T + 1) = allP me mine his T ++ [if me = 0 then (mine[T]?.getD 0, his[T]?.getD 0) else (his[T]?.getD 0, mine[T]?.getD 0)] := by
  unfold allP; rw [List.range_succ, List.map_append]; rfl
theorem allP_length (me : Int) (mine his : List Int) (T : Nat) : (allP me mine his T).length = T := by simp [allP]
/-- own frames are mine, those of the other that are told are his -/
structure SI (J : SK) (mine his : List Int) (told : List Bool) (s : PS) : Prop where
  dm : s.d ≤ mine.length
  own : ∀ k, k < s.d → inAt (s.q.row J.me) k = mine[k]?.getD 0
  oth : ∀ k, isKn (s.q.row (1 - J.me)) k = told[k]?.getD false
  othv : ∀ k, isKn (s.q.row (1 - J.me)) k = true → inAt (s.q.row (1 - J.me)) k = his[k]?.getD 0
section
variable {J : SK} {mine his : List Int} {told : List Bool} {s : PS} {c : Nat}
theorem SI.start (m : Nat) : SI J mine his (List.replicate m false) J.new := by
  have h : ∀ j k, isKn (J.new.q.row j) k = false := by
    intro j k
    have : (J.new.q.row j).kn = List.replicate J.cap.toNat false := by
      unfold PQ.row; split <;> rfl
    unfold isKn
    rw [this, List.getElem?_replicate]
    split <;> rfl
  refine ⟨Nat.zero_le _, fun k hk => absurd hk (Nat.not_lt_zero _), fun k => ?_, fun k hk => ?_⟩
  · rw [h, List.getElem?_replicate]; split <;> rfl
  · rw [h] at hk; cases hk
theorem getR_known {n k : Nat} {r : PRow} (hk : k < n) (h : isKn r k = true) : (getR n r (k : Int)).1 = inAt r k := by
  rw [getR_nat, if_pos ⟨hk, h⟩]
theorem SI.both (h : SI J mine his told s) (G : J.Good s c) : s.q.both = min s.d (lead told) := by
  have h1 : lead (s.q.row J.me).kn = s.d := lead_unique (fun i hi => by rw [G.own, decide_eq_true hi]) (by rw [G.own]; simp)
  have h2 : lead (s.q.row (1 - J.me)).kn = lead told := by
    refine lead_unique (fun i hi => by rw [h.oth, lead_lt hi]; rfl) ?_
    rw [h.oth]
    have := @lead_at told
    cases e : told[lead told]? with
    | none => rfl
    | some b => cases b with
      | false => rfl
      | true => exact absurd e this
  rw [both_seat G.seat, h1, h2]
theorem SI.used (h : SI J mine his told s) (G : J.Good s c) {T : Nat} (hT : T ≤ min s.d (lead told)) : usedQ s.q T = allP J.me mine his T := by
  unfold usedQ allP
  refine List.map_congr_left fun i hi => ?_
  have hiT := List.mem_range.1 hi
  have hin : i < s.q.n := by have := G.dn; omega
  have ho : (s.q.get J.me (i : Int)).1 = mine[i]?.getD 0 := by
    rw [get_row G.seat, getR_known hin (by rw [G.own]; exact decide_eq_true (by omega)), h.own i (by omega)]
  have hkn : isKn (s.q.row (1 - J.me)) i = true := by rw [h.oth, lead_lt (show i < lead told by omega)]; rfl
  have hh : (s.q.get (1 - J.me) (i : Int)).1 = his[i]?.getD 0 := by
    rw [get_row G.seat.other, getR_known hin hkn, h.othv i hkn]
  rcases G.seat with e | e
  · rw [e] at ho hh ⊢
    rw [show (1 : Int) - 0 = 1 from rfl] at hh
    rw [if_pos rfl, ho, hh]
  · rw [e] at ho hh ⊢
    rw [show (1 : Int) - 1 = 0 from rfl] at hh
    rw [if_neg (by decide), ho, hh]
theorem SI.sure (h : SI J mine his told s) (G : J.Good s c) : J.sure s = stL J.code J.cap J.fuel J.seed (allP J.me mine his (min s.d (lead told))) := by
  have hb := h.both G
  unfold SK.sure sureN stA
  rw [h.used G (by rw [hb]; omega), hb]
  congr 2
  omega
theorem SI.loc (h : SI J mine his told s) (G : J.Good s c) {x : Int} (hx : mine[s.d]? = some x) :
    (∃ e, e ≠ 0 ∧ J.loc s x = ((0, e), s)) ∨ (∃ s', J.loc s x = (((s.d : Int), 0), s') ∧ s'.d = s.d + 1 ∧ SI J mine his told s') := by
  unfold SK.loc
  cases ho : (J.now s).over with
  | true => exact .inl ⟨12, by decide, by rw [if_pos rfl]⟩
  | false =>
    by_cases hf : (J.sure s).frame + 8 ≤ (s.d : Int)
    · exact .inl ⟨13, by decide, by rw [if_neg (by simp), if_pos hf]⟩
    · right
      have hd := G.room ho
      have hdm := (List.getElem?_eq_some_iff.1 hx).1
      refine ⟨_, by rw [if_neg (by simp), if_neg hf], rfl, ?_⟩
      have hne : (1 - J.me) ≠ J.me := by rcases G.seat with e | e <;> rw [e] <;> decide
      refine ⟨by show s.d + 1 ≤ _; omega, fun k hk => ?_, fun k => ?_, fun k => ?_⟩
      · show inAt ((s.q.tell J.me s.d x).row J.me) k = _
        rw [tell_row G.seat, inAt_tellR (PQ.row_ok G.qo _) hd]
        split
        · rename_i e; rw [e, hx]; rfl
        · rename_i e; exact h.own k (by have : k < s.d + 1 := hk; omega)
      · show isKn ((s.q.tell J.me s.d x).row (1 - J.me)) k = _
        rw [tell_other G.seat G.seat.other hne]; exact h.oth k
      · show isKn ((s.q.tell J.me s.d x).row (1 - J.me)) k = true → inAt ((s.q.tell J.me s.d x).row (1 - J.me)) k = _
        rw [tell_other G.seat G.seat.other hne]; exact h.othv k
theorem told_q (s : PS) (f : Nat) (y : Int) : (J.told s f y).q = (s.q.put (1 - J.me) f y).2 ∧ (J.told s f y).d = s.d := by
  unfold SK.told; split <;> exact ⟨rfl, rfl⟩
theorem SI.rem (h : SI J mine his told s) (G : J.Good s c) {f : Nat} {y : Int} (hy : his[f]? = some y) (hf : f < told.length) :
    (∃ e, e ≠ 0 ∧ J.rem s f y = (e, s)) ∨ (∃ s', J.rem s f y = (0, s') ∧ s'.d = s.d ∧ SI J mine his (told.set f true) s') := by
  unfold SK.rem
  by_cases h1 : (f : Int) < 0 ∨ J.cap ≤ (f : Int)
  · exact .inl ⟨1, by decide, by rw [if_pos h1]⟩
  rw [if_neg h1]
  cases hso : (J.sure s).over with
  | true => exact .inl ⟨12, by decide, by rw [if_pos rfl]⟩
  | false =>
    rw [if_neg (by simp)]
    by_cases h3 : (J.sure s).frame + 24 < (f : Int)
    · exact .inl ⟨13, by decide, by rw [if_pos h3]⟩
    rw [if_neg h3]
    have hfn : f < s.q.n := by have := G.qn; omega
    cases hkn : isKn (s.q.row (1 - J.me)) f with
    | true =>
      have hp := put_has G.seat.other hfn hkn y
      have hne := hasErr_zero (inAt (s.q.row (1 - J.me)) f) y
      rw [hp]
      exact .inl ⟨_, hne, by rw [if_pos hne]⟩
    | false =>
      have hp := put_tell G.seat.other hfn hkn y
      right
      have ht := told_q (J := J) s f y
      rw [hp] at ht ⊢
      refine ⟨_, by rw [if_neg (by simp)], ht.2, ?_⟩
      have hne : J.me ≠ (1 - J.me) := by rcases G.seat with e | e <;> rw [e] <;> decide
      refine ⟨by rw [ht.2]; exact h.dm, fun k hk => ?_, fun k => ?_, fun k => ?_⟩
      · rw [ht.2] at hk
        rw [ht.1, tell_other G.seat.other G.seat hne]; exact h.own k hk
      · rw [ht.1, tell_row G.seat.other, isKn_tellR (PQ.row_ok G.qo _) hfn]
        by_cases e : k = f
        · subst e; rw [List.getElem?_set_self hf]; simp
        · rw [List.getElem?_set_ne (fun h => e h.symm), ← h.oth]; simp [e]
      · rw [ht.1, tell_row G.seat.other, isKn_tellR (PQ.row_ok G.qo _) hfn, inAt_tellR (PQ.row_ok G.qo _) hfn]
        by_cases e : k = f
        · subst e; rw [if_pos rfl, hy]; intro _; rfl
        · rw [if_neg e]
          simp only [e, decide_false, Bool.false_or]
          exact h.othv k
end
end Go.Proofs.YtjdeeloemhjbhaaGreat
end

section
namespace Go.Proofs.YtjdeeloemhjbhaaGreat
open Go.RowKit Go.Sep Go.Vm Go.Inp
set_option linter.unusedSimpArgs false

def slowP (n : Nat) (fuel : Int) : Bool := decide (120 < n) || (decide (300 < fuel) && decide (fuel ≤ 2000))
set_option maxRecDepth 100000 in
theorem slow_any {W0 w : World} {L : List Asn} (S : Sat W0 w L) (a : Option Addr) (n c : Nat) (cap fuel : Int) :
    Calls Tryz.prog 7 #[.agg #[.slice a n c, .int .i64 cap, .int .i64 fuel]] w fun e w' => e = .returned (.bool (slowP n fuel)) ∧ Sat W0 w' L := by
  have S1 := S.alloc [.slice a n c, .int .i64 cap, .int .i64 fuel] 24
  have c0 := S1.cell 0 rfl 0
  have c2 := S1.cell 0 rfl 2
  simp only [List.getElem?_cons_zero, List.getElem?_cons_succ] at c0 c2
  by_cases h1 : 120 < n
  · have e : slowP n fuel = true := by unfold slowP; rw [decide_eq_true h1]; rfl
    have d1 : decide ((120 : Int) < (n : Int)) = true := decide_eq_true (by omega)
    have d1' : decide (120 < n) = true := decide_eq_true h1
    rw [e]
    clear e h1
    go_enter Tryz.func7, Tryz.ntmps7
    go_wp2_with fail
    go_ret
    exact ⟨rfl, S1.tail⟩
  · have d1 : decide ((120 : Int) < (n : Int)) = false := decide_eq_false (by omega)
    have d1' : decide (120 < n) = false := decide_eq_false h1
    by_cases h2 : 300 < fuel
    · have d2 : decide (300 < fuel) = true := decide_eq_true h2
      by_cases h3 : fuel ≤ 2000
      · have d3 : decide (fuel ≤ 2000) = true := decide_eq_true h3
        have e : slowP n fuel = true := by unfold slowP; rw [d1', d2, d3]; rfl
        rw [e]
        clear e h1 h2 h3
        go_enter Tryz.func7, Tryz.ntmps7
        go_wp2_with fail
        go_ret
        exact ⟨rfl, S1.tail⟩
      · have d3 : decide (fuel ≤ 2000) = false := decide_eq_false h3
        have e : slowP n fuel = false := by unfold slowP; rw [d1', d2, d3]; rfl
        rw [e]
        clear e h1 h2 h3
        go_enter Tryz.func7, Tryz.ntmps7
        go_wp2_with fail
        go_ret
        exact ⟨rfl, S1.tail⟩
    · have d2 : decide (300 < fuel) = false := decide_eq_false h2
      have e : slowP n fuel = false := by unfold slowP; rw [d1', d2]; rfl
      rw [e]
      clear e h1 h2
      go_enter Tryz.func7, Tryz.ntmps7
      go_wp2_with fail
      go_ret
      exact ⟨rfl, S1.tail⟩

end Go.Proofs.YtjdeeloemhjbhaaGreat
end

section
namespace Go.Proofs.YtjdeeloemhjbhaaGreat
open Go.RowKit Go.Sep Go.Oct Go.Vm Go.Inp
set_option linter.unusedSimpArgs false

theorem u16s_flat {w : World} : ∀ {els : List (List Value)} {xs : List Int}, Each ((Kd.int .u16).R w) els xs → els.flatten = uv xs ∧ ∀ x ∈ xs, 0 ≤ x ∧ x < 65536
  | [], [], _ => ⟨rfl, fun x hx => by simp at hx⟩
  | [], x :: r, h => by have := h.1; simp at this
  | c :: s, [], h => by have := h.1; simp at this
  | c :: s, x :: r, h => by
    obtain ⟨rfl, hw⟩ := h.2 0 c x rfl rfl
    obtain ⟨h1, h2⟩ := u16s_flat (els := s) (xs := r) ⟨by have := h.1; simpa using this, fun i c x hc hx => h.2 (i + 1) c x hc hx⟩
    refine ⟨by rw [List.flatten_cons, h1]; rfl, ?_⟩
    intro y hy
    rcases List.mem_cons.1 hy with rfl | hy
    · have : 0 ≤ y ∧ y ≤ 65535 := by simpa [Lit.wf, IntKind.min, IntKind.max, IntKind.signed, IntKind.bits] using hw
      exact ⟨this.1, by omega⟩
    · exact h2 y hy
structure U16R (w : World) (a : Option Addr) (n : Nat) (xs : List Int) : Prop where
  rd : Rd w a (uv xs)
  len : xs.length = n
  bd : ∀ x ∈ xs, 0 ≤ x ∧ x < 65536
  top : n ≤ 140737488351232
theorem u16s_rd {w : World} {s : Sl Int} {c : List Value} (h : (Kd.sl (Kd.int .u16)).R w c s) : U16R w s.ao s.len s.xs := by
  obtain ⟨_, h2, h3, h4, h5, h6, _, h8⟩ := h
  obtain ⟨g1, g2⟩ := u16s_flat h4
  exact ⟨by rw [← g1]; exact h3, h2, g2, h8⟩
theorem nums_flat2 {w : World} : ∀ {els : List (List Value)} {xs : List Int}, Each ((Kd.int .i64).R w) els xs → els.flatten = nv xs
  | [], [], _ => rfl
  | [], x :: r, h => by have := h.1; simp at this
  | c :: s, [], h => by have := h.1; simp at this
  | c :: s, x :: r, h => by
    obtain ⟨rfl, hw⟩ := h.2 0 c x rfl rfl
    have h1 := nums_flat2 (els := s) (xs := r) ⟨by have := h.1; simpa using this, fun i c x hc hx => h.2 (i + 1) c x hc hx⟩
    rw [List.flatten_cons, h1]; rfl
structure I64R (w : World) (a : Option Addr) (n : Nat) (xs : List Int) : Prop where
  rd : Rd w a (nv xs)
  len : xs.length = n
  top : n ≤ 140737488351232
theorem i64s_rd {w : World} {s : Sl Int} {c : List Value} (h : (Kd.sl (Kd.int .i64)).R w c s) : I64R w s.ao s.len s.xs := by
  obtain ⟨_, h2, h3, h4, h5, h6, _, h8⟩ := h
  exact ⟨by rw [← nums_flat2 h4]; exact h3, h2, h8⟩
theorem U16R.at {w w' : World} {a : Option Addr} {n : Nat} {xs : List Int} (h : U16R w a n xs) {k : Nat} (hk : k < n) (hb : Below w.heap.size w w') :
    ∃ b o x, a = some ⟨b, o, none⟩ ∧ xs[k]? = some x ∧ (0 ≤ x ∧ x < 65536) ∧ w'.cell? ⟨b, o + k, none⟩ = some (.int .u16 x) := by
  obtain ⟨x, hx⟩ : ∃ x, xs[k]? = some x := ⟨xs[k]'(by rw [h.len]; exact hk), List.getElem?_eq_getElem _⟩
  obtain ⟨b, o, ha, hc⟩ := (h.rd.below hb) k (.int .u16 x) (by unfold uv; rw [List.getElem?_map, hx]; rfl)
  exact ⟨b, o, x, ha, hx, h.bd x (List.mem_of_getElem? hx), hc⟩
theorem I64R.at {w w' : World} {a : Option Addr} {n : Nat} {xs : List Int} (h : I64R w a n xs) {k : Nat} (hk : k < n) (hb : Below w.heap.size w w') :
    ∃ b o x, a = some ⟨b, o, none⟩ ∧ w'.cell? ⟨b, o + k, none⟩ = some (.int .i64 x) := by
  obtain ⟨x, hx⟩ : ∃ x, xs[k]? = some x := ⟨xs[k]'(by rw [h.len]; exact hk), List.getElem?_eq_getElem _⟩
  obtain ⟨b, o, ha, hc⟩ := (h.rd.below hb) k (.int .i64 x) (by unfold nv; rw [List.getElem?_map, hx]; rfl)
  exact ⟨b, o, x, ha, hc⟩
theorem Tryz.infoI64 : (Tryz.prog.info? 3).map (fun i => (i.zero, i.size, i.bytes)) = some (some (.int .i64 0), 1, 8) := by kernel_rfl
def lis (ao : Option Addr) (n cap : Nat) (l : List Int) : Asn := slc 3 1 ao n cap (nv l)
theorem nv_append (a b : List Int) : nv (a ++ b) = nv a ++ nv b := by simp [nv]
theorem nv_take (l : List Int) (k : Nat) : nv (l.take k) = (nv l).take k := by simp [nv, List.map_take]
theorem nv_drop (l : List Int) (k : Nat) : nv (l.drop k) = (nv l).drop k := by simp [nv, List.map_drop]
theorem lis_len {W0 w : World} {L : List Asn} {ao : Option Addr} {n cap : Nat} {l : List Int} (S : Sat W0 w (lis ao n cap l :: L)) : l.length = n ∧ n ≤ cap ∧ cap ≤ maxLen := by
  have h := (S : Sat W0 w (slc 3 1 ao n cap (nv l) :: L)).own_len
  rw [nv_length] at h
  exact ⟨by omega, h.2.1, h.2.2.1⟩
theorem lis_at {W0 w : World} {L : List Asn} {ao : Option Addr} {n cap : Nat} {l : List Int} (S : Sat W0 w (lis ao n cap l :: L)) {k : Nat} (hk : k < n) : ∃ b o x, ao = some ⟨b, o, none⟩ ∧ l[k]? = some x ∧ w.cell? ⟨b, o + k, none⟩ = some (.int .i64 x) := by
  have hl := (lis_len S).1
  obtain ⟨x, hx⟩ : ∃ x, l[k]? = some x := ⟨l[k]'(by rw [hl]; exact hk), List.getElem?_eq_getElem _⟩
  obtain ⟨b, o, ha, hc⟩ := (S : Sat W0 w (slc 3 1 ao n cap (nv l) :: L)).own_rd k (.int .i64 x) (by unfold nv; rw [List.getElem?_map, hx]; rfl)
  exact ⟨b, o, x, ha, hx, hc⟩
theorem kv_set (l : List Bool) (k : Nat) (b : Bool) : (kv l).set k (.bool b) = kv (l.set k b) := by unfold kv; rw [List.map_set]
theorem kv_at {l : List Bool} {k : Nat} {b : Bool} (h : l[k]? = some b) : (kv l)[k]? = some (.bool b) := by unfold kv; rw [List.getElem?_map, h]; rfl
end Go.Proofs.YtjdeeloemhjbhaaGreat
end
