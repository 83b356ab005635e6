/-
  RbK, RbSl, RbI2, RbTw in one text (wip/tools/squeeze.py)
-/
import Derived.Test.YtjdeeloemhjbhaaGreatQRbD1
import Derived.Test.YtjdeeloemhjbhaaGreatQRbY

section
namespace Go.Proofs.YtjdeeloemhjbhaaGreat
open Go.RowKit Go.Sep Go.Vm Go.Inp
set_option linter.unusedSimpArgs false

theorem pv_pairsv : ∀ l : List (Int × Int), pv l = pairsv l
  | [] => rfl
  | x :: r => by
    rw [show pairsv (x :: r) = .int .u16 x.1 :: .int .u16 x.2 :: pairsv r from rfl, ← pv_pairsv r]; rfl
theorem play_stL {code : List (Int × Int)} {cap fuel seed : Int} (hk : checkP code cap fuel = 0) (l : List (Int × Int)) : playP code cap fuel seed l = (stL code cap fuel seed l, 0) := by
  unfold playP; rw [if_pos hk]; rfl
/-- what holds of both sides' Session, plain -/
structure SK.Good (J : SK) (s : PS) (c : Nat) : Prop where
  hk : checkP J.code J.cap J.fuel = 0
  hs : 0 ≤ J.seed ∧ J.seed < 4294967296
  qo : s.q.ok
  qr : RBQ s.q
  qn : (s.q.n : Int) = J.cap
  seat : Seat J.me
  own : ∀ k, isKn (s.q.row J.me) k = decide (k < s.d)
  dn : s.d ≤ s.q.n
  st : 0 ≤ s.st ∧ s.st ≤ 1000 * c
  wr : 0 ≤ s.wr ∧ s.wr ≤ c
theorem SS_good {W0 w : World} {L : List Asn} {g : Nat} {J : SK} {s : PS} {c : Nat} (S : Sat W0 w (SS g J s c :: L)) : J.Good s c := by
  obtain ⟨r, ring, lo, hi, u, n, m, h, S1⟩ := SS_open.1 S
  have h1 := h.st
  have h2 := h.inv.st
  exact ⟨h.hk, h.hs, h.qo, h.qr, h.qn, h.seat, h.own, h.dn, ⟨by rw [← h1.1]; exact h2.1, h1.2⟩, h.wr.2⟩
theorem SK.Good.room {J : SK} {s : PS} {c : Nat} (G : J.Good s c) (ho : (J.now s).over = false) : s.d < s.q.n := by
  have g := stA_goes G.hk G.hs (rbq_qb G.qr) s.d
  have h1 := g.1.room ho
  have h2 := g.2.2 ho
  have h3 := G.qn
  omega
theorem inAt_tellR {r : PRow} {n f : Nat} {x : Int} (h : r.ok n) (hf : f < n) (k : Nat) : inAt (tellR r f x) k = if k = f then x else inAt r k := inAt_set h hf k

def allP (me : Int) (mine his : List Int) (T : Nat) : List (Int × Int) := (List.range T).map fun i => if me = 0 then (mine[i]?.getD 0, his[i]?.getD 0) else (his[i]?.getD 0, mine[i]?.getD 0)
theorem allP_succ (me : Int) (mine his : List Int) (T : Nat) : allP me mine his (T + 1) = allP me mine his T ++ [if me = 0 then (mine[T]?.getD 0, his[T]?.getD 0) else (his[T]?.getD 0, mine[T]?.getD 0)] := by
  unfold allP; rw [List.range_succ, List.map_append]; rfl
theorem allP_length (me : Int) (mine his : List Int) (T : Nat) : (allP me mine his T).length = T := by simp [allP]
/-- own frames are mine, those of the other that are told are his -/
structure SI (J : SK) (mine his : List Int) (told : List Bool) (s : PS) : Prop where
  dm : s.d ≤ mine.length
  own : ∀ k, k < s.d → inAt (s.q.row J.me) k = mine[k]?.getD 0
  oth : ∀ k, isKn (s.q.row (1 - J.me)) k = told[k]?.getD false
  othv : ∀ k, isKn (s.q.row (1 - J.me)) k = true → inAt (s.q.row (1 - J.me)) k = his[k]?.getD 0
section
variable {J : SK} {mine his : List Int} {told : List Bool} {s : PS} {c : Nat}
theorem SI.start (m : Nat) : SI J mine his (List.replicate m false) J.new := by
  have h : ∀ j k, isKn (J.new.q.row j) k = false := by
    intro j k
    have : (J.new.q.row j).kn = List.replicate J.cap.toNat false := by
      unfold PQ.row; split <;> rfl
    unfold isKn
    rw [this, List.getElem?_replicate]
    split <;> rfl
  refine ⟨Nat.zero_le _, fun k hk => absurd hk (Nat.not_lt_zero _), fun k => ?_, fun k hk => ?_⟩
  · rw [h, List.getElem?_replicate]; split <;> rfl
  · rw [h] at hk; cases hk
theorem getR_known {n k : Nat} {r : PRow} (hk : k < n) (h : isKn r k = true) : (getR n r (k : Int)).1 = inAt r k := by
  rw [getR_nat, if_pos ⟨hk, h⟩]
theorem SI.both (h : SI J mine his told s) (G : J.Good s c) : s.q.both = min s.d (lead told) := by
  have h1 : lead (s.q.row J.me).kn = s.d := lead_unique (fun i hi => by rw [G.own, decide_eq_true hi]) (by rw [G.own]; simp)
  have h2 : lead (s.q.row (1 - J.me)).kn = lead told := by
    refine lead_unique (fun i hi => by rw [h.oth, lead_lt hi]; rfl) ?_
    rw [h.oth]
    have := @lead_at told
    cases e : told[lead told]? with
    | none => rfl
    | some b => cases b with
      | false => rfl
      | true => exact absurd e this
  rw [both_seat G.seat, h1, h2]
theorem SI.used (h : SI J mine his told s) (G : J.Good s c) {T : Nat} (hT : T ≤ min s.d (lead told)) : usedQ s.q T = allP J.me mine his T := by
  unfold usedQ allP
  refine List.map_congr_left fun i hi => ?_
  have hiT := List.mem_range.1 hi
  have hin : i < s.q.n := by have := G.dn; omega
  have ho : (s.q.get J.me (i : Int)).1 = mine[i]?.getD 0 := by
    rw [get_row G.seat, getR_known hin (by rw [G.own]; exact decide_eq_true (by omega)), h.own i (by omega)]
  have hkn : isKn (s.q.row (1 - J.me)) i = true := by rw [h.oth, lead_lt (show i < lead told by omega)]; rfl
  have hh : (s.q.get (1 - J.me) (i : Int)).1 = his[i]?.getD 0 := by
    rw [get_row G.seat.other, getR_known hin hkn, h.othv i hkn]
  rcases G.seat with e | e
  · rw [e] at ho hh ⊢
    rw [show (1 : Int) - 0 = 1 from rfl] at hh
    rw [if_pos rfl, ho, hh]
  · rw [e] at ho hh ⊢
    rw [show (1 : Int) - 1 = 0 from rfl] at hh
    rw [if_neg (by decide), ho, hh]
theorem SI.sure (h : SI J mine his told s) (G : J.Good s c) : J.sure s = stL J.code J.cap J.fuel J.seed (allP J.me mine his (min s.d (lead told))) := by
  have hb := h.both G
  unfold SK.sure sureN stA
  rw [h.used G (by rw [hb]; omega), hb]
  congr 2
  omega
theorem SI.loc (h : SI J mine his told s) (G : J.Good s c) {x : Int} (hx : mine[s.d]? = some x) :
    (∃ e, e ≠ 0 ∧ J.loc s x = ((0, e), s)) ∨ (∃ s', J.loc s x = (((s.d : Int), 0), s') ∧ s'.d = s.d + 1 ∧ SI J mine his told s') := by
  unfold SK.loc
  cases ho : (J.now s).over with
  | true => exact .inl ⟨12, by decide, by rw [if_pos rfl]⟩
  | false =>
    by_cases hf : (J.sure s).frame + 8 ≤ (s.d : Int)
    · exact .inl ⟨13, by decide, by rw [if_neg (by simp), if_pos hf]⟩
    · right
      have hd := G.room ho
      have hdm := (List.getElem?_eq_some_iff.1 hx).1
      refine ⟨_, by rw [if_neg (by simp), if_neg hf], rfl, ?_⟩
      have hne : (1 - J.me) ≠ J.me := by rcases G.seat with e | e <;> rw [e] <;> decide
      refine ⟨by show s.d + 1 ≤ _; omega, fun k hk => ?_, fun k => ?_, fun k => ?_⟩
      · show inAt ((s.q.tell J.me s.d x).row J.me) k = _
        rw [tell_row G.seat, inAt_tellR (PQ.row_ok G.qo _) hd]
        split
        · rename_i e; rw [e, hx]; rfl
        · rename_i e; exact h.own k (by have : k < s.d + 1 := hk; omega)
      · show isKn ((s.q.tell J.me s.d x).row (1 - J.me)) k = _
        rw [tell_other G.seat G.seat.other hne]; exact h.oth k
      · show isKn ((s.q.tell J.me s.d x).row (1 - J.me)) k = true → inAt ((s.q.tell J.me s.d x).row (1 - J.me)) k = _
        rw [tell_other G.seat G.seat.other hne]; exact h.othv k
theorem told_q (s : PS) (f : Nat) (y : Int) : (J.told s f y).q = (s.q.put (1 - J.me) f y).2 ∧ (J.told s f y).d = s.d := by
  unfold SK.told; split <;> exact ⟨rfl, rfl⟩
theorem SI.rem (h : SI J mine his told s) (G : J.Good s c) {f : Nat} {y : Int} (hy : his[f]? = some y) (hf : f < told.length) :
    (∃ e, e ≠ 0 ∧ J.rem s f y = (e, s)) ∨ (∃ s', J.rem s f y = (0, s') ∧ s'.d = s.d ∧ SI J mine his (told.set f true) s') := by
  unfold SK.rem
  by_cases h1 : (f : Int) < 0 ∨ J.cap ≤ (f : Int)
  · exact .inl ⟨1, by decide, by rw [if_pos h1]⟩
  rw [if_neg h1]
  cases hso : (J.sure s).over with
  | true => exact .inl ⟨12, by decide, by rw [if_pos rfl]⟩
  | false =>
    rw [if_neg (by simp)]
    by_cases h3 : (J.sure s).frame + 24 < (f : Int)
    · exact .inl ⟨13, by decide, by rw [if_pos h3]⟩
    rw [if_neg h3]
    have hfn : f < s.q.n := by have := G.qn; omega
    cases hkn : isKn (s.q.row (1 - J.me)) f with
    | true =>
      have hp := put_has G.seat.other hfn hkn y
      have hne := hasErr_zero (inAt (s.q.row (1 - J.me)) f) y
      rw [hp]
      exact .inl ⟨_, hne, by rw [if_pos hne]⟩
    | false =>
      have hp := put_tell G.seat.other hfn hkn y
      right
      have ht := told_q (J := J) s f y
      rw [hp] at ht ⊢
      refine ⟨_, by rw [if_neg (by simp)], ht.2, ?_⟩
      have hne : J.me ≠ (1 - J.me) := by rcases G.seat with e | e <;> rw [e] <;> decide
      refine ⟨by rw [ht.2]; exact h.dm, fun k hk => ?_, fun k => ?_, fun k => ?_⟩
      · rw [ht.2] at hk
        rw [ht.1, tell_other G.seat.other G.seat hne]; exact h.own k hk
      · rw [ht.1, tell_row G.seat.other, isKn_tellR (PQ.row_ok G.qo _) hfn]
        by_cases e : k = f
        · subst e; rw [List.getElem?_set_self hf]; simp
        · rw [List.getElem?_set_ne (fun h => e h.symm), ← h.oth]; simp [e]
      · rw [ht.1, tell_row G.seat.other, isKn_tellR (PQ.row_ok G.qo _) hfn, inAt_tellR (PQ.row_ok G.qo _) hfn]
        by_cases e : k = f
        · subst e; rw [if_pos rfl, hy]; intro _; rfl
        · rw [if_neg e]
          simp only [e, decide_false, Bool.false_or]
          exact h.othv k
end
end Go.Proofs.YtjdeeloemhjbhaaGreat
end

section
namespace Go.Proofs.YtjdeeloemhjbhaaGreat
open Go.RowKit Go.Sep Go.Vm Go.Inp
set_option linter.unusedSimpArgs false

def slowP (n : Nat) (fuel : Int) : Bool := decide (120 < n) || (decide (300 < fuel) && decide (fuel ≤ 2000))
set_option maxRecDepth 100000 in
theorem slow_any {W0 w : World} {L : List Asn} (S : Sat W0 w L) (a : Option Addr) (n c : Nat) (cap fuel : Int) :
    Calls Tryz.prog 7 #[.agg #[.slice a n c, .int .i64 cap, .int .i64 fuel]] w fun e w' => e = .returned (.bool (slowP n fuel)) ∧ Sat W0 w' L := by
  have S1 := S.alloc [.slice a n c, .int .i64 cap, .int .i64 fuel] 24
  have c0 := S1.cell 0 rfl 0
  have c2 := S1.cell 0 rfl 2
  simp only [List.getElem?_cons_zero, List.getElem?_cons_succ] at c0 c2
  by_cases h1 : 120 < n
  · have e : slowP n fuel = true := by unfold slowP; rw [decide_eq_true h1]; rfl
    have d1 : decide ((120 : Int) < (n : Int)) = true := decide_eq_true (by omega)
    have d1' : decide (120 < n) = true := decide_eq_true h1
    rw [e]
    clear e h1
    go_enter Tryz.func7, Tryz.ntmps7
    go_wp2_with fail
    go_ret
    exact ⟨rfl, S1.tail⟩
  · have d1 : decide ((120 : Int) < (n : Int)) = false := decide_eq_false (by omega)
    have d1' : decide (120 < n) = false := decide_eq_false h1
    by_cases h2 : 300 < fuel
    · have d2 : decide (300 < fuel) = true := decide_eq_true h2
      by_cases h3 : fuel ≤ 2000
      · have d3 : decide (fuel ≤ 2000) = true := decide_eq_true h3
        have e : slowP n fuel = true := by unfold slowP; rw [d1', d2, d3]; rfl
        rw [e]
        clear e h1 h2 h3
        go_enter Tryz.func7, Tryz.ntmps7
        go_wp2_with fail
        go_ret
        exact ⟨rfl, S1.tail⟩
      · have d3 : decide (fuel ≤ 2000) = false := decide_eq_false h3
        have e : slowP n fuel = false := by unfold slowP; rw [d1', d2, d3]; rfl
        rw [e]
        clear e h1 h2 h3
        go_enter Tryz.func7, Tryz.ntmps7
        go_wp2_with fail
        go_ret
        exact ⟨rfl, S1.tail⟩
    · have d2 : decide (300 < fuel) = false := decide_eq_false h2
      have e : slowP n fuel = false := by unfold slowP; rw [d1', d2]; rfl
      rw [e]
      clear e h1 h2
      go_enter Tryz.func7, Tryz.ntmps7
      go_wp2_with fail
      go_ret
      exact ⟨rfl, S1.tail⟩

end Go.Proofs.YtjdeeloemhjbhaaGreat
end

section
namespace Go.Proofs.YtjdeeloemhjbhaaGreat
open Go.RowKit Go.Sep Go.Oct Go.Vm Go.Inp
set_option linter.unusedSimpArgs false

theorem u16s_flat {w : World} : ∀ {els : List (List Value)} {xs : List Int}, Each ((Kd.int .u16).R w) els xs → els.flatten = uv xs ∧ ∀ x ∈ xs, 0 ≤ x ∧ x < 65536
  | [], [], _ => ⟨rfl, fun x hx => by simp at hx⟩
  | [], x :: r, h => by have := h.1; simp at this
  | c :: s, [], h => by have := h.1; simp at this
  | c :: s, x :: r, h => by
    obtain ⟨rfl, hw⟩ := h.2 0 c x rfl rfl
    obtain ⟨h1, h2⟩ := u16s_flat (els := s) (xs := r) ⟨by have := h.1; simpa using this, fun i c x hc hx => h.2 (i + 1) c x hc hx⟩
    refine ⟨by rw [List.flatten_cons, h1]; rfl, ?_⟩
    intro y hy
    rcases List.mem_cons.1 hy with rfl | hy
    · have : 0 ≤ y ∧ y ≤ 65535 := by simpa [Lit.wf, IntKind.min, IntKind.max, IntKind.signed, IntKind.bits] using hw
      exact ⟨this.1, by omega⟩
    · exact h2 y hy
structure U16R (w : World) (a : Option Addr) (n : Nat) (xs : List Int) : Prop where
  rd : Rd w a (uv xs)
  len : xs.length = n
  bd : ∀ x ∈ xs, 0 ≤ x ∧ x < 65536
  top : n ≤ 140737488351232
theorem u16s_rd {w : World} {s : Sl Int} {c : List Value} (h : (Kd.sl (Kd.int .u16)).R w c s) : U16R w s.ao s.len s.xs := by
  obtain ⟨_, h2, h3, h4, h5, h6, _, h8⟩ := h
  obtain ⟨g1, g2⟩ := u16s_flat h4
  exact ⟨by rw [← g1]; exact h3, h2, g2, h8⟩
theorem nums_flat2 {w : World} : ∀ {els : List (List Value)} {xs : List Int}, Each ((Kd.int .i64).R w) els xs → els.flatten = nv xs
  | [], [], _ => rfl
  | [], x :: r, h => by have := h.1; simp at this
  | c :: s, [], h => by have := h.1; simp at this
  | c :: s, x :: r, h => by
    obtain ⟨rfl, hw⟩ := h.2 0 c x rfl rfl
    have h1 := nums_flat2 (els := s) (xs := r) ⟨by have := h.1; simpa using this, fun i c x hc hx => h.2 (i + 1) c x hc hx⟩
    rw [List.flatten_cons, h1]; rfl
structure I64R (w : World) (a : Option Addr) (n : Nat) (xs : List Int) : Prop where
  rd : Rd w a (nv xs)
  len : xs.length = n
  top : n ≤ 140737488351232
theorem i64s_rd {w : World} {s : Sl Int} {c : List Value} (h : (Kd.sl (Kd.int .i64)).R w c s) : I64R w s.ao s.len s.xs := by
  obtain ⟨_, h2, h3, h4, h5, h6, _, h8⟩ := h
  exact ⟨by rw [← nums_flat2 h4]; exact h3, h2, h8⟩
theorem U16R.at {w w' : World} {a : Option Addr} {n : Nat} {xs : List Int} (h : U16R w a n xs) {k : Nat} (hk : k < n) (hb : Below w.heap.size w w') :
    ∃ b o x, a = some ⟨b, o, none⟩ ∧ xs[k]? = some x ∧ (0 ≤ x ∧ x < 65536) ∧ w'.cell? ⟨b, o + k, none⟩ = some (.int .u16 x) := by
  obtain ⟨x, hx⟩ : ∃ x, xs[k]? = some x := ⟨xs[k]'(by rw [h.len]; exact hk), List.getElem?_eq_getElem _⟩
  obtain ⟨b, o, ha, hc⟩ := (h.rd.below hb) k (.int .u16 x) (by unfold uv; rw [List.getElem?_map, hx]; rfl)
  exact ⟨b, o, x, ha, hx, h.bd x (List.mem_of_getElem? hx), hc⟩
theorem I64R.at {w w' : World} {a : Option Addr} {n : Nat} {xs : List Int} (h : I64R w a n xs) {k : Nat} (hk : k < n) (hb : Below w.heap.size w w') :
    ∃ b o x, a = some ⟨b, o, none⟩ ∧ w'.cell? ⟨b, o + k, none⟩ = some (.int .i64 x) := by
  obtain ⟨x, hx⟩ : ∃ x, xs[k]? = some x := ⟨xs[k]'(by rw [h.len]; exact hk), List.getElem?_eq_getElem _⟩
  obtain ⟨b, o, ha, hc⟩ := (h.rd.below hb) k (.int .i64 x) (by unfold nv; rw [List.getElem?_map, hx]; rfl)
  exact ⟨b, o, x, ha, hc⟩
theorem Tryz.infoI64 : (Tryz.prog.info? 3).map (fun i => (i.zero, i.size, i.bytes)) = some (some (.int .i64 0), 1, 8) := by kernel_rfl
def lis (ao : Option Addr) (n cap : Nat) (l : List Int) : Asn := slc 3 1 ao n cap (nv l)
theorem nv_append (a b : List Int) : nv (a ++ b) = nv a ++ nv b := by simp [nv]
theorem nv_take (l : List Int) (k : Nat) : nv (l.take k) = (nv l).take k := by simp [nv, List.map_take]
theorem nv_drop (l : List Int) (k : Nat) : nv (l.drop k) = (nv l).drop k := by simp [nv, List.map_drop]
theorem lis_len {W0 w : World} {L : List Asn} {ao : Option Addr} {n cap : Nat} {l : List Int} (S : Sat W0 w (lis ao n cap l :: L)) : l.length = n ∧ n ≤ cap ∧ cap ≤ maxLen := by
  have h := (S : Sat W0 w (slc 3 1 ao n cap (nv l) :: L)).own_len
  rw [nv_length] at h
  exact ⟨by omega, h.2.1, h.2.2.1⟩
theorem lis_at {W0 w : World} {L : List Asn} {ao : Option Addr} {n cap : Nat} {l : List Int} (S : Sat W0 w (lis ao n cap l :: L)) {k : Nat} (hk : k < n) : ∃ b o x, ao = some ⟨b, o, none⟩ ∧ l[k]? = some x ∧ w.cell? ⟨b, o + k, none⟩ = some (.int .i64 x) := by
  have hl := (lis_len S).1
  obtain ⟨x, hx⟩ : ∃ x, l[k]? = some x := ⟨l[k]'(by rw [hl]; exact hk), List.getElem?_eq_getElem _⟩
  obtain ⟨b, o, ha, hc⟩ := (S : Sat W0 w (slc 3 1 ao n cap (nv l) :: L)).own_rd k (.int .i64 x) (by unfold nv; rw [List.getElem?_map, hx]; rfl)
  exact ⟨b, o, x, ha, hx, hc⟩
theorem kv_set (l : List Bool) (k : Nat) (b : Bool) : (kv l).set k (.bool b) = kv (l.set k b) := by unfold kv; rw [List.map_set]
theorem kv_at {l : List Bool} {k : Nat} {b : Bool} (h : l[k]? = some b) : (kv l)[k]? = some (.bool b) := by unfold kv; rw [List.getElem?_map, h]; rfl
end Go.Proofs.YtjdeeloemhjbhaaGreat
end

section
namespace Go.Proofs.YtjdeeloemhjbhaaGreat
open Go.RowKit Go.Sep Go.Vm Go.Inp
set_option linter.unusedSimpArgs false

def TT (N t : Nat) : List Bool := List.replicate t true ++ List.replicate (N - t) false
theorem TT_len {N t : Nat} (h : t ≤ N) : (TT N t).length = N := by unfold TT; simp; omega
theorem TT_lead {N t : Nat} (h : t ≤ N) : lead (TT N t) = t := cstR_lead (n := N) (d := t) (x := 0) h
theorem TT_set {N t : Nat} (h : t < N) : (TT N t).set t true = TT N (t + 1) := set_grow N t true false h
theorem TT_zero {N : Nat} : TT N 0 = List.replicate N false := by simp [TT]
theorem TT_at {N t : Nat} : (TT N t)[t]?.getD false = false := by
  unfold TT
  rw [List.getElem?_append_right (by rw [List.length_replicate]; exact Nat.le_refl _), List.getElem?_replicate]
  split <;> rfl
theorem allP_one (a b : List Int) (T : Nat) : allP 1 b a T = allP 0 a b T := by
  unfold allP; exact List.map_congr_left fun i _ => by simp
def Bd (l : List Int) : Prop := ∀ x ∈ l, 0 ≤ x ∧ x < 65536
theorem allP_u16 {a b : List Int} (ha : Bd a) (hb : Bd b) (me : Int) (T : Nat) : U16s (allP me a b T) := by
  intro x hx
  obtain ⟨k, _, rfl⟩ := List.mem_map.1 hx
  have h1 : ∀ l : List Int, Bd l → 0 ≤ l[k]?.getD 0 ∧ l[k]?.getD 0 < 65536 := by
    intro l hl
    cases e : l[k]? with
    | none => simp
    | some v => exact hl v (List.mem_of_getElem? e)
  split
  · exact ⟨h1 a ha, h1 b hb⟩
  · exact ⟨h1 b hb, h1 a ha⟩
def KK (code : List (Int × Int)) (cap fuel seed me : Int) : SK := ⟨code, cap, fuel, seed, me⟩
def SF (code : List (Int × Int)) (cap fuel seed : Int) (a b : List Int) (T : Nat) : VS := stL code cap fuel seed (allP 0 a b T)
section
variable {code : List (Int × Int)} {cap fuel seed : Int} {a b : List Int}
theorem SF_goes (hk : checkP code cap fuel = 0) (hs : 0 ≤ seed ∧ seed < 4294967296) (ha : Bd a) (hb : Bd b) (T : Nat) :
    Goes cap (SF code cap fuel seed a b T) ∧ (SF code cap fuel seed a b T).frame ≤ T ∧ ((SF code cap fuel seed a b T).over = false → (SF code cap fuel seed a b T).frame = T) := by
  have := stL_goes hk hs (allP_u16 ha hb 0 T)
  rw [allP_length] at this
  exact this
theorem SF_succ (T : Nat) : SF code cap fuel seed a b (T + 1) = if (SF code cap fuel seed a b T).over = true then SF code cap fuel seed a b T else (stepP code cap fuel (SF code cap fuel seed a b T) (a[T]?.getD 0) (b[T]?.getD 0)).1 := by
  unfold SF
  rw [allP_succ, if_pos rfl, stL_snoc]
theorem SF_over {T : Nat} (h : (SF code cap fuel seed a b T).over = true) : ∀ m, T ≤ m → SF code cap fuel seed a b m = SF code cap fuel seed a b T := by
  intro m
  induction m with
  | zero => intro hm; obtain rfl : T = 0 := by omega
            rfl
  | succ m ih =>
    intro hm
    by_cases e : T = m + 1
    · rw [e]
    · rw [SF_succ, ih (by omega), if_pos h]
theorem SF_up (hk : checkP code cap fuel = 0) (hs : 0 ≤ seed ∧ seed < 4294967296) (ha : Bd a) (hb : Bd b) {T : Nat} (h : (SF code cap fuel seed a b T).over = false) : ∀ m, T < m → ((T + 1 : Nat) : Int) ≤ (SF code cap fuel seed a b m).frame := by
  have hx : ∀ (l : List Int) (k : Nat), Bd l → 0 ≤ l[k]?.getD 0 ∧ l[k]?.getD 0 < 65536 := by
    intro l k hl
    cases e : l[k]? with
    | none => simp
    | some v => exact hl v (List.mem_of_getElem? e)
  intro m
  induction m with
  | zero => intro hm; omega
  | succ m ih =>
    intro hm
    rw [SF_succ]
    cases ho : (SF code cap fuel seed a b m).over with
    | true =>
      rw [if_pos rfl]
      by_cases e : T = m
      · rw [e, ho] at h; cases h
      · exact ih (by omega)
    | false =>
      rw [if_neg (by simp)]
      have g := SF_goes hk hs ha hb m (seed := seed)
      obtain ⟨t, ht, _, hf⟩ := goes_step hk g.1 ho (hx a m ha) (hx b m hb)
      rw [ht]
      show _ ≤ t.frame
      rw [hf, g.2.2 ho]
      omega
theorem SF_same (hk : checkP code cap fuel = 0) (hs : 0 ≤ seed ∧ seed < 4294967296) (ha : Bd a) (hb : Bd b) {T U : Nat} (h : (SF code cap fuel seed a b T).frame = (SF code cap fuel seed a b U).frame) : SF code cap fuel seed a b T = SF code cap fuel seed a b U := by
  have key : ∀ T U, T ≤ U → (SF code cap fuel seed a b T).frame = (SF code cap fuel seed a b U).frame → SF code cap fuel seed a b T = SF code cap fuel seed a b U := by
    intro T U hTU h
    cases ho : (SF code cap fuel seed a b T).over with
    | true => exact (SF_over ho U hTU).symm
    | false =>
      by_cases e : T = U
      · rw [e]
      · have h1 := (SF_goes hk hs ha hb T (seed := seed)).2.2 ho
        have h2 := SF_up hk hs ha hb ho U (by omega)
        omega
  rcases Nat.le_total T U with hTU | hTU
  · exact key T U hTU h
  · exact (key U T hTU h.symm).symm
end
/-- n rounds are done; i, k: what each has done; tY, tX: what each was told -/
def TwDone (code : List (Int × Int)) (cap fuel seed : Int) (a b : List Int) (N tY tX : Nat) : Prop := (SF code cap fuel seed a b (min tX tY)).over = true ∨ N ≤ min tX tY
def LV (i k tY tX n : Nat) : Prop := (n - 100) / 4 ≤ tX ∧ (n - 100) / 4 ≤ tY ∧ (1 ≤ (n - 100) % 4 → (n - 100) / 4 + 1 ≤ i) ∧ (2 ≤ (n - 100) % 4 → (n - 100) / 4 + 1 ≤ k) ∧ (3 ≤ (n - 100) % 4 → (n - 100) / 4 + 1 ≤ tY)
structure TI (code : List (Int × Int)) (cap fuel seed : Int) (a b : List Int) (N P : Nat) (x y : PS) (i k tY tX n : Nat) : Prop where
  sx : SI (KK code cap fuel seed 0) a b (TT N tX) x
  sy : SI (KK code cap fuel seed 1) b a (TT N tY) y
  xd : x.d = i
  yd : y.d = k
  iN : i ≤ N
  kN : k ≤ N
  hX : tX ≤ k
  hY : tY ≤ i
  live : P ≤ 100 → 100 ≤ n → TwDone code cap fuel seed a b N tY tX ∨ LV i k tY tX n
section
variable {code : List (Int × Int)} {cap fuel seed : Int} {a b : List Int} {N P : Nat} {x y : PS} {i k tY tX n : Nat} {cx cy : Nat}
theorem loc_zero {J : SK} {s : PS} {v : Int} (h1 : (J.now s).over = false) (h2 : ¬ (J.sure s).frame + 8 ≤ (s.d : Int)) : (J.loc s v).1.2 = 0 := by
  unfold SK.loc; rw [if_neg (by rw [h1]; simp), if_neg h2]
theorem rem_zero {J : SK} {s : PS} {c f : Nat} {v : Int} (G : J.Good s c) (h0 : (f : Int) < J.cap) (h1 : (J.sure s).over = false) (h2 : ¬ (J.sure s).frame + 24 < (f : Int)) (h3 : isKn (s.q.row (1 - J.me)) f = false) : (J.rem s f v).1 = 0 := by
  have hp := put_tell G.seat.other (show f < s.q.n by have := G.qn; omega) h3 v
  unfold SK.rem
  rw [if_neg (by omega), if_neg (by rw [h1]; simp), if_neg h2, hp, if_neg (by simp)]
theorem TI.surex (h : TI code cap fuel seed a b N P x y i k tY tX n) (G : (KK code cap fuel seed 0).Good x cx) : (KK code cap fuel seed 0).sure x = SF code cap fuel seed a b (min i tX) := by
  rw [h.sx.sure G, h.xd, TT_lead (by have := h.hX; have := h.kN; omega)]; rfl
theorem TI.surey (h : TI code cap fuel seed a b N P x y i k tY tX n) (G : (KK code cap fuel seed 1).Good y cy) : (KK code cap fuel seed 1).sure y = SF code cap fuel seed a b (min k tY) := by
  rw [h.sy.sure G, h.yd, TT_lead (by have := h.hY; have := h.iN; omega)]
  show stL _ _ _ _ (allP 1 b a _) = _
  rw [allP_one]; rfl
theorem TwDone.mono (h : TwDone code cap fuel seed a b N tY tX) {tY' tX' : Nat} (h1 : tY ≤ tY') (h2 : tX ≤ tX') : TwDone code cap fuel seed a b N tY' tX' := by
  rcases h with h | h
  · left; rw [SF_over h _ (by omega)]; exact h
  · right; omega
/-- one more round: the numbers grow, and the one of this round's kind has grown, if that is wanted -/
theorem live_next (hl : P ≤ 100 → 100 ≤ n → TwDone code cap fuel seed a b N tY tX ∨ LV i k tY tX n) {i' k' tY' tX' : Nat} (h1 : i ≤ i') (h2 : k ≤ k') (h3 : tY ≤ tY') (h4 : tX ≤ tX')
    (hg : P ≤ 100 → 100 ≤ n → ¬ TwDone code cap fuel seed a b N tY tX → LV i k tY tX n → (n % 4 = 0 → (n - 100) / 4 + 1 ≤ i') ∧ (n % 4 = 1 → (n - 100) / 4 + 1 ≤ k') ∧ (n % 4 = 2 → (n - 100) / 4 + 1 ≤ tY') ∧ (n % 4 = 3 → (n - 100) / 4 + 1 ≤ tX')) :
    P ≤ 100 → 100 ≤ n + 1 → TwDone code cap fuel seed a b N tY' tX' ∨ LV i' k' tY' tX' (n + 1) := by
  intro hP hn
  by_cases e : n + 1 = 100
  · right; unfold LV; rw [e]; exact ⟨by omega, by omega, by omega, by omega, by omega⟩
  rcases hl hP (by omega) with h | h
  · exact .inl (h.mono h3 h4)
  · by_cases hd : TwDone code cap fuel seed a b N tY tX
    · exact .inl (hd.mono h3 h4)
    · right
      have hg2 := hg hP (by omega) hd h
      unfold LV at h ⊢
      obtain ⟨a1, a2, a3, a4, a5⟩ := h
      obtain ⟨b1, b2, b3, b4⟩ := hg2
      have hn4 : n % 4 = 0 ∨ n % 4 = 1 ∨ n % 4 = 2 ∨ n % 4 = 3 := by omega
      have h100 : 100 ≤ n := by omega
      clear hg hl e hd hP
      rcases hn4 with e4 | e4 | e4 | e4
      · have q1 : (n + 1 - 100) / 4 = (n - 100) / 4 := by omega
        have q2 : (n + 1 - 100) % 4 = 1 := by omega
        have q3 := b1 e4
        rw [q1, q2]
        clear q1 q2 b1 b2 b3 b4 a3 a4 a5 hn h100 e4
        generalize (n - 100) / 4 = c at *
        exact ⟨by omega, by omega, fun _ => by omega, fun h => by omega, fun h => by omega⟩
      · have q1 : (n + 1 - 100) / 4 = (n - 100) / 4 := by omega
        have q2 : (n + 1 - 100) % 4 = 2 := by omega
        have q3 := b2 e4
        have q4 := a3 (by omega)
        rw [q1, q2]
        clear q1 q2 b1 b2 b3 b4 a3 a4 a5 hn h100 e4
        generalize (n - 100) / 4 = c at *
        exact ⟨by omega, by omega, fun _ => by omega, fun h => by omega, fun h => by omega⟩
      · have q1 : (n + 1 - 100) / 4 = (n - 100) / 4 := by omega
        have q2 : (n + 1 - 100) % 4 = 3 := by omega
        have q3 := b3 e4
        have q4 := a3 (by omega)
        have q5 := a4 (by omega)
        rw [q1, q2]
        clear q1 q2 b1 b2 b3 b4 a3 a4 a5 hn h100 e4
        generalize (n - 100) / 4 = c at *
        exact ⟨by omega, by omega, fun _ => by omega, fun h => by omega, fun h => by omega⟩
      · have q1 : (n + 1 - 100) / 4 = (n - 100) / 4 + 1 := by omega
        have q2 : (n + 1 - 100) % 4 = 0 := by omega
        have q3 := b4 e4
        have q6 := a5 (by omega)
        rw [q1, q2]
        clear q1 q2 b1 b2 b3 b4 a3 a4 a5 hn h100 e4
        generalize (n - 100) / 4 = c at *
        exact ⟨by omega, by omega, fun h => by omega, fun h => by omega, fun h => by omega⟩
theorem TI.start (ha : a.length = N) : TI code cap fuel seed a b N P (KK code cap fuel seed 0).new (KK code cap fuel seed 1).new 0 0 0 0 0 := by
  refine ⟨?_, ?_, rfl, rfl, by omega, by omega, by omega, by omega, fun _ h => by omega⟩
  · rw [TT_zero]; exact SI.start N
  · rw [TT_zero]; exact SI.start N
/-- the kinds that did nothing -/
theorem TI.idle (h : TI code cap fuel seed a b N P x y i k tY tX n)
    (hg : P ≤ 100 → 100 ≤ n → ¬ TwDone code cap fuel seed a b N tY tX → LV i k tY tX n → (n % 4 = 0 → (n - 100) / 4 + 1 ≤ i) ∧ (n % 4 = 1 → (n - 100) / 4 + 1 ≤ k) ∧ (n % 4 = 2 → (n - 100) / 4 + 1 ≤ tY) ∧ (n % 4 = 3 → (n - 100) / 4 + 1 ≤ tX)) :
    TI code cap fuel seed a b N P x y i k tY tX (n + 1) :=
  ⟨h.sx, h.sy, h.xd, h.yd, h.iN, h.kN, h.hX, h.hY, live_next h.live (Nat.le_refl _) (Nat.le_refl _) (Nat.le_refl _) (Nat.le_refl _) hg⟩
/-- what is known of a place that is not done -/
theorem not_done (hk : checkP code cap fuel = 0) (hs : 0 ≤ seed ∧ seed < 4294967296) (ha : Bd a) (hb : Bd b) (hd : ¬ TwDone code cap fuel seed a b N tY tX) {c : Nat} (h1 : min tX tY = c) : c < N ∧ (SF code cap fuel seed a b c).over = false ∧ (SF code cap fuel seed a b c).frame = c ∧ (c : Int) < cap := by
  unfold TwDone at hd
  rw [h1] at hd
  have ho : (SF code cap fuel seed a b c).over = false := by
    cases e : (SF code cap fuel seed a b c).over with
    | false => rfl
    | true => exact absurd (.inl e) hd
  have g := SF_goes hk hs ha hb c (seed := seed)
  have h2 := g.1.room ho
  have h3 := g.2.2 ho
  exact ⟨by omega, ho, h3, by omega⟩
theorem TI.x0 (hk : checkP code cap fuel = 0) (hs : 0 ≤ seed ∧ seed < 4294967296) (ha : Bd a) (hb : Bd b) (h : TI code cap fuel seed a b N P x y i k tY tX n) (G : (KK code cap fuel seed 0).Good x cx) {p : Int} (hp : P ≤ n → p = n) (hr : p % 4 = 0) {v : Int} (hv : a[i]? = some v) (hiN : i < N) :
    (∃ e, e ≠ 0 ∧ (KK code cap fuel seed 0).loc x v = ((0, e), x) ∧ TI code cap fuel seed a b N P x y i k tY tX (n + 1)) ∨
    (∃ s', (KK code cap fuel seed 0).loc x v = (((i : Int), 0), s') ∧ TI code cap fuel seed a b N P s' y (i + 1) k tY tX (n + 1)) := by
  have h1 := h.hX; have h2 := h.hY; have h3 := h.kN
  rcases h.sx.loc G (by rw [h.xd]; exact hv) with ⟨e, he, hl⟩ | ⟨s', hl, hd, hI⟩
  · left
    refine ⟨e, he, hl, h.idle fun hP hn hnd hlv => ?_⟩
    have hpn := hp (by omega)
    unfold LV at hlv
    refine ⟨fun h4 => ?_, fun h4 => by omega, fun h4 => by omega, fun h4 => by omega⟩
    rcases Nat.lt_or_ge i ((n - 100) / 4 + 1) with hlt | hge
    · exfalso
      have hc : min tX tY = i := by omega
      obtain ⟨_, q1, q2, _⟩ := not_done hk hs ha hb hnd hc
      have hsu := h.surex G
      rw [show min i tX = i by omega] at hsu
      have hnow : (KK code cap fuel seed 0).now x = SF code cap fuel seed a b i := by
        unfold SK.now stA
        rw [h.xd, h.sx.used G (by rw [h.xd, TT_lead (by omega)]; omega)]
        rfl
      have := loc_zero (J := KK code cap fuel seed 0) (s := x) (v := v) (by rw [hnow]; exact q1) (by rw [hsu, q2, h.xd]; omega)
      rw [hl] at this
      exact he this
    · exact hge
  · right
    rw [h.xd] at hl hd
    refine ⟨s', hl, hI, h.sy, hd, h.yd, by omega, h.kN, h.hX, by omega, live_next h.live (by omega) (Nat.le_refl _) (Nat.le_refl _) (Nat.le_refl _) fun hP hn hnd hlv => ?_⟩
    have hpn := hp (by omega)
    unfold LV at hlv
    exact ⟨fun _ => by omega, fun h4 => by omega, fun h4 => by omega, fun h4 => by omega⟩
theorem TI.x0' (h : TI code cap fuel seed a b N P x y i k tY tX n) {p : Int} (hp : P ≤ n → p = n) (hr : p % 4 = 0) (hiN : ¬ i < N) : TI code cap fuel seed a b N P x y i k tY tX (n + 1) := by
  have h1 := h.hX; have h2 := h.hY; have h3 := h.kN
  refine h.idle fun hP hn hnd hlv => ?_
  have hpn := hp (by omega)
  unfold LV at hlv
  refine ⟨fun h4 => ?_, fun h4 => by omega, fun h4 => by omega, fun h4 => by omega⟩
  rcases Nat.lt_or_ge i ((n - 100) / 4 + 1) with hlt | hge
  · exact absurd (.inr (by omega)) hnd
  · exact hge
theorem TI.y0 (hk : checkP code cap fuel = 0) (hs : 0 ≤ seed ∧ seed < 4294967296) (ha : Bd a) (hb : Bd b) (h : TI code cap fuel seed a b N P x y i k tY tX n) (G : (KK code cap fuel seed 1).Good y cy) {p : Int} (hp : P ≤ n → p = n) (hr : p % 4 = 1) {v : Int} (hv : b[k]? = some v) (hkN : k < N) :
    (∃ e, e ≠ 0 ∧ (KK code cap fuel seed 1).loc y v = ((0, e), y) ∧ TI code cap fuel seed a b N P x y i k tY tX (n + 1)) ∨
    (∃ s', (KK code cap fuel seed 1).loc y v = (((k : Int), 0), s') ∧ TI code cap fuel seed a b N P x s' i (k + 1) tY tX (n + 1)) := by
  have h1 := h.hX; have h2 := h.hY; have h3 := h.iN
  rcases h.sy.loc G (by rw [h.yd]; exact hv) with ⟨e, he, hl⟩ | ⟨s', hl, hd, hI⟩
  · left
    refine ⟨e, he, hl, h.idle fun hP hn hnd hlv => ?_⟩
    have hpn := hp (by omega)
    unfold LV at hlv
    refine ⟨fun h4 => by omega, fun h4 => ?_, fun h4 => by omega, fun h4 => by omega⟩
    rcases Nat.lt_or_ge k ((n - 100) / 4 + 1) with hlt | hge
    · exfalso
      have hc : min tX tY = k := by omega
      obtain ⟨_, q1, q2, _⟩ := not_done hk hs ha hb hnd hc
      have hsu := h.surey G
      rw [show min k tY = k by omega] at hsu
      have hnow : (KK code cap fuel seed 1).now y = SF code cap fuel seed a b k := by
        unfold SK.now stA
        rw [h.yd, h.sy.used G (by rw [h.yd, TT_lead (by omega)]; omega)]
        show stL _ _ _ _ (allP 1 b a _) = _
        rw [allP_one]; rfl
      have := loc_zero (J := KK code cap fuel seed 1) (s := y) (v := v) (by rw [hnow]; exact q1) (by rw [hsu, q2, h.yd]; omega)
      rw [hl] at this
      exact he this
    · exact hge
  · right
    rw [h.yd] at hl hd
    refine ⟨s', hl, h.sx, hI, h.xd, hd, h.iN, by omega, by omega, h.hY, live_next h.live (Nat.le_refl _) (by omega) (Nat.le_refl _) (Nat.le_refl _) fun hP hn hnd hlv => ?_⟩
    have hpn := hp (by omega)
    unfold LV at hlv
    exact ⟨fun h4 => by omega, fun _ => by omega, fun h4 => by omega, fun h4 => by omega⟩
theorem TI.y0' (h : TI code cap fuel seed a b N P x y i k tY tX n) {p : Int} (hp : P ≤ n → p = n) (hr : p % 4 = 1) (hkN : ¬ k < N) : TI code cap fuel seed a b N P x y i k tY tX (n + 1) := by
  have h1 := h.hX; have h2 := h.hY; have h3 := h.iN
  refine h.idle fun hP hn hnd hlv => ?_
  have hpn := hp (by omega)
  unfold LV at hlv
  refine ⟨fun h4 => by omega, fun h4 => ?_, fun h4 => by omega, fun h4 => by omega⟩
  rcases Nat.lt_or_ge k ((n - 100) / 4 + 1) with hlt | hge
  · exact absurd (.inr (by omega)) hnd
  · exact hge
/-- told to y -/
theorem TI.y1 (hk : checkP code cap fuel = 0) (hs : 0 ≤ seed ∧ seed < 4294967296) (ha : Bd a) (hb : Bd b) (h : TI code cap fuel seed a b N P x y i k tY tX n) (G : (KK code cap fuel seed 1).Good y cy) {p : Int} (hp : P ≤ n → p = n) (hr : p % 4 = 2) {v : Int} (hv : a[tY]? = some v) (hlt0 : tY < i) :
    (∃ e, e ≠ 0 ∧ (KK code cap fuel seed 1).rem y tY v = (e, y) ∧ TI code cap fuel seed a b N P x y i k tY tX (n + 1)) ∨
    (∃ s', (KK code cap fuel seed 1).rem y tY v = (0, s') ∧ TI code cap fuel seed a b N P x s' i k (tY + 1) tX (n + 1)) := by
  have h1 := h.hX; have h2 := h.hY; have h3 := h.iN; have h4' := h.kN
  rcases h.sy.rem G hv (by rw [TT_len (by omega)]; omega) with ⟨e, he, hl⟩ | ⟨s', hl, hd, hI⟩
  · left
    refine ⟨e, he, hl, h.idle fun hP hn hnd hlv => ?_⟩
    have hpn := hp (by omega)
    unfold LV at hlv
    refine ⟨fun h4 => by omega, fun h4 => by omega, fun h4 => ?_, fun h4 => by omega⟩
    rcases Nat.lt_or_ge tY ((n - 100) / 4 + 1) with hlt | hge
    · exfalso
      have hc : min tX tY = tY := by omega
      obtain ⟨_, q1, q2, q3⟩ := not_done hk hs ha hb hnd hc
      have hsu := h.surey G
      rw [show min k tY = tY by omega] at hsu
      have := rem_zero (J := KK code cap fuel seed 1) (s := y) (f := tY) (v := v) G q3 (by rw [hsu]; exact q1) (by rw [hsu, q2]; omega) (by rw [h.sy.oth]; exact TT_at)
      rw [hl] at this
      exact he this
    · exact hge
  · right
    rw [TT_set (by omega)] at hI
    refine ⟨s', hl, h.sx, hI, h.xd, by rw [hd]; exact h.yd, h.iN, h.kN, h.hX, by omega, live_next h.live (Nat.le_refl _) (Nat.le_refl _) (by omega) (Nat.le_refl _) fun hP hn hnd hlv => ?_⟩
    have hpn := hp (by omega)
    unfold LV at hlv
    exact ⟨fun h4 => by omega, fun h4 => by omega, fun _ => by omega, fun h4 => by omega⟩
theorem TI.y1' (h : TI code cap fuel seed a b N P x y i k tY tX n) {p : Int} (hp : P ≤ n → p = n) (hr : p % 4 = 2) (hlt0 : ¬ tY < i) : TI code cap fuel seed a b N P x y i k tY tX (n + 1) := by
  have h1 := h.hX; have h2 := h.hY; have h3 := h.iN
  refine h.idle fun hP hn hnd hlv => ?_
  have hpn := hp (by omega)
  unfold LV at hlv
  exact ⟨fun h4 => by omega, fun h4 => by omega, fun h4 => by omega, fun h4 => by omega⟩
/-- told to x -/
theorem TI.x1 (hk : checkP code cap fuel = 0) (hs : 0 ≤ seed ∧ seed < 4294967296) (ha : Bd a) (hb : Bd b) (h : TI code cap fuel seed a b N P x y i k tY tX n) (G : (KK code cap fuel seed 0).Good x cx) {p : Int} (hp : P ≤ n → p = n) (hr : p % 4 = 3) {v : Int} (hv : b[tX]? = some v) (hlt0 : tX < k) :
    (∃ e, e ≠ 0 ∧ (KK code cap fuel seed 0).rem x tX v = (e, x) ∧ TI code cap fuel seed a b N P x y i k tY tX (n + 1)) ∨
    (∃ s', (KK code cap fuel seed 0).rem x tX v = (0, s') ∧ TI code cap fuel seed a b N P s' y i k tY (tX + 1) (n + 1)) := by
  have h1 := h.hX; have h2 := h.hY; have h3 := h.iN; have h4' := h.kN
  rcases h.sx.rem G hv (by rw [TT_len (by omega)]; omega) with ⟨e, he, hl⟩ | ⟨s', hl, hd, hI⟩
  · left
    refine ⟨e, he, hl, h.idle fun hP hn hnd hlv => ?_⟩
    have hpn := hp (by omega)
    unfold LV at hlv
    refine ⟨fun h4 => by omega, fun h4 => by omega, fun h4 => by omega, fun h4 => ?_⟩
    rcases Nat.lt_or_ge tX ((n - 100) / 4 + 1) with hlt | hge
    · exfalso
      have hc : min tX tY = tX := by omega
      obtain ⟨_, q1, q2, q3⟩ := not_done hk hs ha hb hnd hc
      have hsu := h.surex G
      rw [show min i tX = tX by omega] at hsu
      have := rem_zero (J := KK code cap fuel seed 0) (s := x) (f := tX) (v := v) G q3 (by rw [hsu]; exact q1) (by rw [hsu, q2]; omega) (by rw [h.sx.oth]; exact TT_at)
      rw [hl] at this
      exact he this
    · exact hge
  · right
    rw [TT_set (by omega)] at hI
    refine ⟨s', hl, hI, h.sy, by rw [hd]; exact h.xd, h.yd, h.iN, h.kN, by omega, h.hY, live_next h.live (Nat.le_refl _) (Nat.le_refl _) (Nat.le_refl _) (by omega) fun hP hn hnd hlv => ?_⟩
    have hpn := hp (by omega)
    unfold LV at hlv
    exact ⟨fun h4 => by omega, fun h4 => by omega, fun h4 => by omega, fun _ => by omega⟩
theorem TI.x1' (h : TI code cap fuel seed a b N P x y i k tY tX n) {p : Int} (hp : P ≤ n → p = n) (hr : p % 4 = 3) (hlt0 : ¬ tX < k) : TI code cap fuel seed a b N P x y i k tY tX (n + 1) := by
  have h1 := h.hX; have h2 := h.hY; have h3 := h.iN
  refine h.idle fun hP hn hnd hlv => ?_
  have hpn := hp (by omega)
  unfold LV at hlv
  exact ⟨fun h4 => by omega, fun h4 => by omega, fun h4 => by omega, fun h4 => by omega⟩
/-- in the end both are sure of all -/
theorem TI.fin (h : TI code cap fuel seed a b N P x y i k tY tX 400) (hN : N ≤ 40) (hP : P ≤ 100) (Gx : (KK code cap fuel seed 0).Good x cx) (Gy : (KK code cap fuel seed 1).Good y cy) :
    (KK code cap fuel seed 0).sure x = SF code cap fuel seed a b N ∧ (KK code cap fuel seed 1).sure y = SF code cap fuel seed a b N := by
  have h1 := h.hX; have h2 := h.hY; have h3 := h.iN; have h4 := h.kN
  rw [h.surex Gx, h.surey Gy]
  rcases h.live hP (by omega) with hd | hd
  · rcases hd with hd | hd
    · rw [SF_over hd (min i tX) (by omega), SF_over hd (min k tY) (by omega), SF_over hd N (by omega)]
      exact ⟨rfl, rfl⟩
    · rw [show min i tX = N by omega, show min k tY = N by omega]
      exact ⟨rfl, rfl⟩
  · unfold LV at hd; omega
end
end Go.Proofs.YtjdeeloemhjbhaaGreat
end
