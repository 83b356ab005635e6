/-
  Slices that the call itself owns, as assertions; what is read; append in both arms.
-/
import Derived.Test.YtjdeeloemhjbhaaGreatSep
namespace Go.Sep
open Go.RowKit

/-! ### what is read -/
/-- From the address on these cells lie there. -/
def Rd (w : World) (ao : Option Addr) (xs : List Value) : Prop := ∀ j u, xs[j]? = some u → ∃ b off, ao = some ⟨b, off, none⟩ ∧ w.cell? ⟨b, off + j, none⟩ = some u

theorem Rd.nil (w : World) (ao : Option Addr) : Rd w ao [] := fun j u h => by simp at h
theorem Rd.at {w : World} {b off : Nat} {xs : List Value} (h : Rd w (some ⟨b, off, none⟩) xs) {j : Nat} {u : Value} (hj : xs[j]? = some u) : w.cell? ⟨b, off + j, none⟩ = some u := by
  obtain ⟨b', off', e, hc⟩ := h j u hj
  cases e
  exact hc
theorem Rd.grow {w w' : World} {ao : Option Addr} {xs : List Value} (h : Rd w ao xs) (hw : ∀ k, k < w.heap.size → w'.heap[k]? = w.heap[k]?) : Rd w' ao xs := by
  intro j u hj
  obtain ⟨b, off, e, hc⟩ := h j u hj
  refine ⟨b, off, e, ?_⟩
  rw [← hc]
  exact World.cell?_of_block (hw b (World.block_lt_of_cell? w _ hc))
theorem Rd.below {W0 w : World} {ao : Option Addr} {xs : List Value} (h : Rd W0 ao xs) (hb : Below W0.heap.size W0 w) : Rd w ao xs := h.grow hb.block
theorem Rd.grown {w w' : World} {ao : Option Addr} {xs : List Value} (h : Rd w ao xs) (hg : w.grownBy w' none) : Rd w' ao xs := h.grow fun k hk => hg.block k hk (by simp)
theorem Rd.drop {w : World} {b off : Nat} {xs : List Value} (h : Rd w (some ⟨b, off, none⟩) xs) (n : Nat) : Rd w (some ⟨b, off + n, none⟩) (xs.drop n) := by
  intro j u hj
  rw [List.getElem?_drop] at hj
  exact ⟨b, off + n, rfl, by rw [Nat.add_assoc]; exact h.at hj⟩
theorem Rd.take {w : World} {ao : Option Addr} {xs : List Value} (h : Rd w ao xs) (n : Nat) : Rd w ao (xs.take n) := by
  intro j u hj
  rw [List.getElem?_take] at hj
  split at hj
  · exact h j u hj
  · cases hj
theorem Rd.lt {w : World} {b off : Nat} {xs : List Value} (h : Rd w (some ⟨b, off, none⟩) xs) (h0 : xs ≠ []) : b < w.heap.size := by
  cases xs with
  | nil => exact absurd rfl h0
  | cons x r => exact World.block_lt_of_cell? w _ (h.at (j := 0) (u := x) rfl)
/-- a literal's cells -/
theorem Rd.lit {w : World} {p : Nat} {cs : List Value} {e : TypeId} (h : w.heap[p]? = some (.cells cs.toArray e (0, 0))) : Rd w (some ⟨p, 0, none⟩) cs := fun j u hj => ⟨p, 0, rfl, by rw [cell_at h]; simpa using hj⟩

/-- a block that is only read, whatever its marks -/
def cblk (p : Nat) (cs : List Value) (e : TypeId) (fr : Nat × Nat) : Asn := ⟨fun h => h p = some (.cells cs.toArray e fr), fun _ _ H a => H _ _ a⟩
theorem Sat.allocC {W0 w : World} {L : List Asn} (H : Sat W0 w L) (cs : List Value) (e : TypeId) (fr : Nat × Nat) : Sat W0 (w.alloc (.cells cs.toArray e fr)) (cblk w.heap.size cs e fr :: L) := by
  refine ⟨H.below.alloc H.below.size _, ?_⟩
  rw [heapOf_alloc H.below.size]
  exact all_new (by simp [heapOf]) (fun k hk => hk) H.own
theorem Sat.allocAny {W0 w : World} {L : List Asn} (H : Sat W0 w L) (o : Obj) : Sat W0 (w.alloc o) L := H.grown (World.grownBy_alloc w o none)
theorem Sat.quiet {W0 w w' : World} {L : List Asn} (H : Sat W0 w L) (h : ∃ nq, w' = w.drewN nq) : Sat W0 w' L := by
  obtain ⟨nq, rfl⟩ := h
  exact H.drewN nq
theorem Rd.quiet {w w' : World} {ao : Option Addr} {xs : List Value} (H : Rd w ao xs) (h : ∃ nq, w' = w.drewN nq) : Rd w' ao xs := by
  obtain ⟨nq, rfl⟩ := h
  exact H
theorem Sat.crd {W0 w : World} {L : List Asn} {p : Nat} {cs : List Value} {e : TypeId} {fr : Nat × Nat} (H : Sat W0 w (cblk p cs e fr :: L)) : Rd w (some ⟨p, 0, none⟩) cs := by
  have h := all_get 0 _ _ _ rfl H.own
  simp only [cblk, heapOf] at h
  split at h
  · intro j u hj
    refine ⟨p, 0, rfl, ?_⟩
    simp only [World.cell?, h]
    simpa using hj
  · cases h

/-! ### what is owned -/
def slc (e : TypeId) (size : Nat) (ao : Option Addr) (n cap : Nat) (xs : List Value) : Asn :=
  match ao with
  | none => pureA (n = 0 ∧ cap = 0 ∧ xs = []) emp
  | some ad => exA fun (r : List Value × List Value) =>
      pureA (ad = ⟨ad.block, r.1.length, none⟩ ∧ xs.length = n * size ∧ n ≤ cap ∧ cap ≤ maxLen ∧ (cap - n) * size ≤ r.2.length) (blk ad.block (r.1 ++ xs ++ r.2) e)

theorem Sat.own_none {W0 w : World} {L : List Asn} {e : TypeId} {size n cap : Nat} {xs : List Value} : Sat W0 w (slc e size none n cap xs :: L) ↔ n = 0 ∧ cap = 0 ∧ xs = [] ∧ Sat W0 w L := by
  unfold slc
  constructor
  · intro h
    obtain ⟨⟨a, b, c⟩, h⟩ := Sat.pure.1 h
    exact ⟨a, b, c, h.tail⟩
  · rintro ⟨a, b, c, h⟩
    exact Sat.pure.2 ⟨⟨a, b, c⟩, h.emp⟩

theorem Sat.own_some {W0 w : World} {L : List Asn} {e : TypeId} {size : Nat} {ad : Addr} {n cap : Nat} {xs : List Value} : Sat W0 w (slc e size (some ad) n cap xs :: L) ↔
    ∃ b pre post, ad = ⟨b, pre.length, none⟩ ∧ xs.length = n * size ∧ n ≤ cap ∧ cap ≤ maxLen ∧ (cap - n) * size ≤ post.length ∧ Sat W0 w (blk b (pre ++ xs ++ post) e :: L) := by
  unfold slc
  constructor
  · intro h
    obtain ⟨⟨pre, post⟩, h⟩ := Sat.ex.1 h
    obtain ⟨⟨a, b, c, d, f⟩, h⟩ := Sat.pure.1 h
    exact ⟨ad.block, pre, post, a, b, c, d, f, h⟩
  · rintro ⟨b, pre, post, rfl, h1, h2, h3, h4, h⟩
    exact Sat.ex.2 ⟨(pre, post), Sat.pure.2 ⟨⟨rfl, h1, h2, h3, h4⟩, h⟩⟩

/-- a new row, whole -/
theorem Sat.own_new {W0 w : World} {L : List Asn} {e : TypeId} {size g n cap : Nat} {xs post : List Value} (h : Sat W0 w (blk g (xs ++ post) e :: L)) (h1 : xs.length = n * size) (h2 : n ≤ cap) (h3 : cap ≤ maxLen)
    (h4 : (cap - n) * size ≤ post.length) : Sat W0 w (slc e size (some ⟨g, 0, none⟩) n cap xs :: L) :=
  Sat.own_some.2 ⟨g, [], post, rfl, h1, h2, h3, h4, h⟩

theorem Sat.own_len {W0 w : World} {L : List Asn} {e : TypeId} {size : Nat} {ao : Option Addr} {n cap : Nat} {xs : List Value} (h : Sat W0 w (slc e size ao n cap xs :: L)) :
    xs.length = n * size ∧ n ≤ cap ∧ cap ≤ maxLen ∧ (ao = none → n = 0 ∧ cap = 0) := by
  cases ao with
  | none =>
    obtain ⟨rfl, rfl, rfl, _⟩ := Sat.own_none.1 h
    exact ⟨by simp, by omega, by unfold maxLen; omega, fun _ => ⟨rfl, rfl⟩⟩
  | some ad =>
    obtain ⟨b, pre, post, rfl, h1, h2, h3, h4, h⟩ := Sat.own_some.1 h
    exact ⟨h1, h2, h3, fun h => by cases h⟩

theorem Sat.own_rd {W0 w : World} {L : List Asn} {e : TypeId} {size : Nat} {ao : Option Addr} {n cap : Nat} {xs : List Value} (h : Sat W0 w (slc e size ao n cap xs :: L)) : Rd w ao xs := by
  cases ao with
  | none => obtain ⟨rfl, rfl, rfl, _⟩ := Sat.own_none.1 h; exact Rd.nil _ _
  | some ad =>
    obtain ⟨b, pre, post, rfl, h1, h2, h3, h4, h⟩ := Sat.own_some.1 h
    intro j u hj
    refine ⟨b, pre.length, rfl, ?_⟩
    rw [h.cell 0 rfl]
    have : j < xs.length := (List.getElem?_eq_some_iff.1 hj).1
    rw [List.append_assoc, List.getElem?_append_right (by omega), List.getElem?_append_left (by omega)]
    simpa using hj

/-- fewer of them: what lay behind is room -/
theorem Sat.own_shrink {W0 w : World} {L : List Asn} {e : TypeId} {size : Nat} {ao : Option Addr} {n k cap : Nat} {xs ys : List Value} (h : Sat W0 w (slc e size ao (n + k) cap (xs ++ ys) :: L)) (hx : xs.length = n * size) :
    Sat W0 w (slc e size ao n cap xs :: L) := by
  cases ao with
  | none =>
    obtain ⟨h1, h2, h3, h⟩ := Sat.own_none.1 h
    exact Sat.own_none.2 ⟨by omega, h2, (List.append_eq_nil_iff.1 h3).1, h⟩
  | some ad =>
    obtain ⟨b, pre, post, rfl, h1, h2, h3, h4, h⟩ := Sat.own_some.1 h
    refine Sat.own_some.2 ⟨b, pre, ys ++ post, rfl, hx, by omega, h3, ?_, by simpa only [List.append_assoc] using h⟩
    rw [List.length_append, Nat.add_mul] at h1
    rw [Nat.sub_mul, Nat.add_mul] at h4
    rw [Nat.sub_mul, List.length_append]
    have : (n + k) * size ≤ cap * size := Nat.mul_le_mul_right _ h2
    rw [Nat.add_mul] at this
    omega

theorem heapOf_setCells {B b : Nat} {e : TypeId} : ∀ (news : List Value) (o : Nat) (w : World) (cs : List Value), B ≤ b → w.heap[b]? = some (.cells cs.toArray e (0, 0)) → o + news.length ≤ cs.length →
    heapOf B (w.setCells b o news) = upd (heapOf B w) b (.cells (cs.take o ++ news ++ cs.drop (o + news.length)).toArray e (0, 0)) ∧ (w.setCells b o news).heap[b]? = some (.cells (cs.take o ++ news ++ cs.drop (o + news.length)).toArray e (0, 0))
  | [], o, w, cs, hB, h, hl => by
    simp only [World.setCells, List.append_nil, List.length_nil, Nat.add_zero, List.take_append_drop]
    refine ⟨?_, h⟩
    funext k
    simp only [heapOf, upd]
    by_cases hk : k = b
    · subst hk; simp [hB, h]
    · simp [hk]
  | v :: r, o, w, cs, hB, h, hl => by
    simp only [World.setCells]
    have hs : (w.setCell ⟨b, o, none⟩ v).heap[b]? = some (.cells (cs.set o v).toArray e (0, 0)) := by
      simp [World.setCell, Array.getElem?_modify, h]
    simp only [List.length_cons] at hl
    obtain ⟨i1, i2⟩ := heapOf_setCells r (o + 1) (w.setCell ⟨b, o, none⟩ v) (cs.set o v) hB hs (by simp; omega)
    have e1 : (cs.set o v).take (o + 1) ++ r ++ (cs.set o v).drop (o + 1 + r.length) = cs.take o ++ (v :: r) ++ cs.drop (o + (v :: r).length) := by
      rw [List.take_succ_eq_append_getElem (by simp; omega), List.take_set_of_le (by omega), List.getElem_set_self, List.drop_set_of_lt (by omega)]
      simp only [List.length_cons, List.append_assoc, List.cons_append, List.nil_append]
      congr 4
      omega
    rw [e1] at i1 i2
    refine ⟨?_, i2⟩
    rw [i1, heapOf_setCell hB h]
    funext k
    simp only [upd]
    split <;> rfl

theorem Sat.setCells {W0 w : World} {L : List Asn} {b : Nat} {cs : List Value} {e : TypeId} (H : Sat W0 w (blk b cs e :: L)) (o : Nat) (news : List Value) (hl : o + news.length ≤ cs.length) :
    Sat W0 (w.setCells b o news) (blk b (cs.take o ++ news ++ cs.drop (o + news.length)) e :: L) := by
  obtain ⟨hb, hB, _⟩ := H.block 0 rfl
  have hh := (heapOf_setCells news o w cs hB hb hl).1
  have hbel : ∀ (news : List Value) (o : Nat) (w' : World), Below W0.heap.size w w' → Below W0.heap.size w (w'.setCells b o news) := by
    intro news
    induction news with
    | nil => intro o w' h; exact h
    | cons v r ih => intro o w' h; exact ih (o + 1) _ (h.setCell hB v)
  exact H.put (p := b) (A' := blk b (cs.take o ++ news ++ cs.drop (o + news.length)) e) 0 rfl (fun h ha => ⟨by simp only [blk] at ha; rw [ha]; simp, by simp [blk, upd]⟩) (hbel _ _ _ (Below.refl _ _)) hh

theorem Sat.own_addr {W0 w : World} {L : List Asn} {e : TypeId} {size : Nat} {ad : Addr} {n cap : Nat} {xs : List Value} (h : Sat W0 w (slc e size (some ad) n cap xs :: L)) : ∃ b off, ad = ⟨b, off, none⟩ := by
  obtain ⟨b, pre, _, h1, _⟩ := Sat.own_some.1 h
  exact ⟨b, _, h1⟩
/-- one cell of an owned row: read, free to be written, and written -/
theorem Sat.own_cell {W0 w : World} {L : List Asn} {e : TypeId} {size b off n cap : Nat} {xs : List Value} (h : Sat W0 w (slc e size (some ⟨b, off, none⟩) n cap xs :: L)) {i : Nat} {u : Value} (hi : xs[i]? = some u) :
    w.cell? ⟨b, off + i, none⟩ = some u ∧ w.frozen? ⟨b, off + i, none⟩ = false := by
  obtain ⟨b', pre, post, h0, h1, h2, h3, h4, S⟩ := Sat.own_some.1 h
  cases h0
  exact ⟨h.own_rd.at hi, S.frozen 0 rfl _⟩
theorem Sat.own_set {W0 w : World} {L : List Asn} {e : TypeId} {size b off n cap : Nat} {xs : List Value} (h : Sat W0 w (slc e size (some ⟨b, off, none⟩) n cap xs :: L)) {i : Nat} (hi : i < xs.length) (v : Value) :
    Sat W0 (w.setCell ⟨b, off + i, none⟩ v) (slc e size (some ⟨b, off, none⟩) n cap (xs.set i v) :: L) := by
  obtain ⟨b', pre, post, h0, h1, h2, h3, h4, S⟩ := Sat.own_some.1 h
  cases h0
  refine Sat.own_some.2 ⟨b, pre, post, rfl, by simpa using h1, h2, h3, h4, ?_⟩
  have S2 := S.setCell (k := pre.length + i) (v := v) 0 rfl
  have e1 : (pre ++ xs ++ post).set (pre.length + i) v = pre ++ xs.set i v ++ post := by
    rw [List.append_assoc, List.set_append_right _ _ (by omega), Nat.add_sub_cancel_left, List.set_append_left _ _ hi, List.append_assoc]
  rw [e1] at S2
  exact S2

section
variable {P : Program}
theorem run_append_none_none (w : World) (t ty e : TypeId) (i : TypeInfo) (ht : P.underlying t = some (.slice e)) (hi : P.info? e = some i) (ao : Option Addr) (n cap c : Nat) (hn : n ≤ cap) (h0 : ao = none → n = 0) :
    (Builtin.append_ #[t, t] ty #[.slice ao n cap, .slice none 0 c]).run P w = .ok (.slice ao n cap) w := by
  cases ao with
  | none => simp [Builtin.append_, run_underlying ht, sizeOf, typeInfo, hi, Builtin.lenOf, hn, Builtin.firstCells]
  | some a => simp [Builtin.append_, run_underlying ht, sizeOf, typeInfo, hi, Builtin.lenOf, hn, Builtin.firstCells, storeCells]

theorem run_append_sat {W0 w : World} {L : List Asn} (t ty e : TypeId) (i : TypeInfo) (z : Value) (size bytes : Nat) (ht : P.underlying t = some (.slice e)) (hi : P.info? e = some i) (hz : i.zero = some z)
    (hsize : i.size = size) (hby : i.bytes = bytes) (hzs : z.cells.size = size) (hsz : 0 < size)
    {ao : Option Addr} {n cap : Nat} {xs : List Value} (S : Sat W0 w (slc e size ao n cap xs :: L))
    {axo : Option Addr} {m c : Nat} {news : List Value} (hR : Rd w axo news) (hm : news.length = m * size) (h1 : ∀ u ∈ news, u.oneCell' = true)
    (b1 : n + m ≤ maxLen) (b2 : (n + m) * bytes ≤ 140737488355328) :
    ∃ ao' cap' w', (Builtin.append_ #[t, t] ty #[.slice ao n cap, .slice axo m c]).run P w = .ok (.slice ao' (n + m) cap') w' ∧ Sat W0 w' (slc e size ao' (n + m) cap' (xs ++ news) :: L) := by
  obtain ⟨hxl, hnc, hcm, hnn⟩ := S.own_len
  have hxo : axo = none → m = 0 := by
    rintro rfl
    cases news with
    | nil =>
      cases m with
      | zero => rfl
      | succ k => rw [Nat.succ_mul] at hm; simp at hm; omega
    | cons u r => obtain ⟨_, _, h, _⟩ := hR 0 u rfl; cases h
  cases axo with
  | none =>
    obtain rfl := hxo rfl
    obtain rfl : news = [] := List.eq_nil_of_length_eq_zero (by simpa using hm)
    exact ⟨ao, cap, w, run_append_none_none w t ty e i ht hi ao n cap c hnc (fun h => (hnn h).1), by simpa using S⟩
  | some a =>
    have hnews : ∀ j u, news[j]? = some u → w.cell? (a.add j) = some u := by
      intro j u hj
      obtain ⟨b, off, ha, hc⟩ := hR j u hj
      cases ha
      rw [Addr.add_lit]; exact hc
    -- the arm that grows
    have grow : ∀ w' v', w'.ownsRow W0.heap.size e size v' (n + m) (xs ++ news) → w.grownBy w' none → (∀ k, v'.ownBlock = some k → w.heap.size ≤ k) →
        ∃ ao' cap', v' = .slice ao' (n + m) cap' ∧ Sat W0 w' (slc e size ao' (n + m) cap' (xs ++ news) :: L) := by
      intro w' v' ho hg hnew
      have S' : Sat W0 w' L := S.tail.grown hg
      obtain ⟨h1, h2⟩ := ho
      rcases h2 with ⟨rfl, hz⟩ | ⟨g, cp, cur, rfl, hb, hh, hle, hmx, hcs, htk⟩
      · refine ⟨none, 0, by rw [hz], Sat.own_none.2 ⟨hz, rfl, ?_, S'⟩⟩
        rw [hz] at h1
        exact List.eq_nil_of_length_eq_zero (by simpa using h1)
      · refine ⟨some ⟨g, 0, none⟩, cp, rfl, ?_⟩
        have hgn := hnew g rfl
        have hcur : cur.toList = (xs ++ news) ++ cur.toList.drop ((n + m) * size) := by
          conv => lhs; rw [← List.take_append_drop ((n + m) * size) cur.toList, htk]
        refine Sat.own_new (post := cur.toList.drop ((n + m) * size)) ?_ h1 hle hmx ?_
        · refine ⟨S'.below, ?_⟩
          rw [← hcur]
          have hsub : (Sep.all L).holds (fun k => if k = g then none else heapOf W0.heap.size w' k) := by
            refine (Sep.all L).mono _ _ ?_ S.tail.own
            intro k o hk
            simp only [heapOf] at hk ⊢
            split at hk
            · rename_i hB
              have hlt : k < w.heap.size := (Array.getElem?_eq_some_iff.1 hk).1
              rw [if_neg (by omega), if_pos hB, hg.block k hlt (by simp)]
              exact hk
            · cases hk
          have hfin := all_new (o := .cells cur e (0, 0)) (A := blk g cur.toList e) (p := g) (by simp) (fun k hk => by simpa [blk] using hk) hsub
          refine (Sep.all _).mono _ _ ?_ hfin
          intro k o hk
          simp only [upd] at hk
          by_cases hkg : k = g
          · subst hkg
            simp only [if_true] at hk
            simp only [heapOf, if_pos hb, hh]
            exact hk
          · simpa [hkg] using hk
        · simp only [List.length_drop, Array.length_toList, hcs, Nat.sub_mul]
          omega
    cases ao with
    | none =>
      obtain ⟨hn0, hc0⟩ := hnn rfl
      subst hn0; subst hc0
      obtain ⟨_, _, rfl, S1⟩ := Sat.own_none.1 S
      obtain ⟨v', w', hrun, r1, r2, r3⟩ := run_append_own (P := P) w W0.heap.size t ty e i z size bytes ht hi hz hsize hby hzs hsz (.slice none 0 0) 0 [] (World.ownsRow_nil w _ e size) a m c news hm hnews h1 b1 b2 S.size
      obtain ⟨v2, w2, hrun2, q1, q2, _⟩ := run_append_own (P := P) w w.heap.size t ty e i z size bytes ht hi hz hsize hby hzs hsz (.slice none 0 0) 0 [] (World.ownsRow_nil w _ e size) a m c news hm hnews h1 b1 b2 (Nat.le_refl _)
      rw [hrun] at hrun2
      cases hrun2
      obtain ⟨ao', cap', rfl, hS⟩ := grow w' v' r1 r2 (fun k hk => (q1.lt k hk).1)
      exact ⟨ao', cap', w', hrun, hS⟩
    | some ad =>
      obtain ⟨b, pre, post, rfl, hx1, hx2, hx3, hx4, S1⟩ := Sat.own_some.1 S
      have hblk := S1.block 0 rfl
      by_cases hr : n + m ≤ cap
      · subst hsize
        have hcell : ∀ j, j < news.length → (w.cell? ⟨b, pre.length + n * i.size + j, none⟩).isSome = true := by
          intro j hj
          rw [S1.cell 0 rfl]
          have : (n + m) * i.size ≤ cap * i.size := Nat.mul_le_mul_right _ hr
          rw [Nat.add_mul] at this
          rw [Nat.sub_mul] at hx4
          rw [List.getElem?_eq_getElem (by simp; omega)]
          rfl
        have hrun := run_append_room_cells (P := P) w t ty e i ht hi b pre.length n cap a m c news hm hnews h1 hr hcell (fun j _ => S1.frozen 0 rfl _)
        refine ⟨_, _, _, hrun, ?_⟩
        have hroom : (n + m) * i.size ≤ cap * i.size := Nat.mul_le_mul_right _ hr
        rw [Nat.add_mul] at hroom
        rw [Nat.sub_mul] at hx4
        have S2 := S1.setCells (pre.length + n * i.size) news (by simp; omega)
        have e1 : (pre ++ xs ++ post).take (pre.length + n * i.size) = pre ++ xs := by
          rw [← hx1, ← List.length_append, List.take_left]
        have e2 : (pre ++ xs ++ post).drop (pre.length + n * i.size + news.length) = post.drop news.length := by
          rw [← hx1, ← List.length_append, ← List.drop_drop, List.drop_left]
        rw [e1, e2] at S2
        refine Sat.own_some.2 ⟨b, pre, post.drop news.length, rfl, ?_, hr, hx3, ?_, ?_⟩
        · rw [List.length_append, hx1, hm, Nat.add_mul]
        · rw [List.length_drop, hm, Nat.sub_mul, Nat.add_mul]; omega
        · simpa only [List.append_assoc] using S2
      · have hold : ∀ j u, xs[j]? = some u → w.cell? ((⟨b, pre.length, none⟩ : Addr).add j) = some u := by
          intro j u hj
          rw [Addr.add_lit]
          exact S.own_rd.at hj
        obtain ⟨v', w', hrun, r1, r2⟩ := run_append_arg_grows (P := P) w t ty e i z size bytes ht hi hz hsize hby hzs hsz ⟨b, pre.length, none⟩ n cap xs hx1 hold a m c news hm hnews (by omega) b1 b2
        obtain ⟨ao', cap', rfl, hS⟩ := grow w' v' ⟨r1.1, by
          rcases r1.2 with h | ⟨g, cp, cur, q1, q2, q3⟩
          · exact .inl h
          · exact .inr ⟨g, cp, cur, q1, Nat.le_trans S.size q2, q3⟩⟩ r2 (fun k hk => (r1.lt k hk).1)
        exact ⟨ao', cap', w', hrun, hS⟩

/-- append for the walk: the i-th assertion is the slice's -/
theorem wpList_append_sat {W0 w : World} {L : List Asn} {ops : Array Oper} {rest : List Oper} {o : Oper} {a : Act} {Q : Exit → Act → World → Prop}
    (hg : o.guard = none) (s x : Operand) (t : TypeId) (hop : o.op = Op.call { callee := Callee.builtin Builtin.append, args := #[s, x], argTypes := #[t, t] })
    (e : TypeId) (i : TypeInfo) (z : Value) (size bytes : Nat) (ht : P.underlying t = some (.slice e)) (hi : P.info? e = some i) (hz : i.zero = some z)
    (hsize : i.size = size) (hby : i.bytes = bytes) (hzs : z.cells.size = size) (hsz : 0 < size)
    {ao : Option Addr} {n cap : Nat} {xs : List Value} (S : Sat W0 w (slc e size ao n cap xs :: L)) (hs : a.eval s = .slice ao n cap)
    {axo : Option Addr} {m c : Nat} {news : List Value} (hx : a.eval x = .slice axo m c) (hR : Rd w axo news) (hm : news.length = m * size) (h1 : ∀ u ∈ news, u.oneCell' = true)
    (b1 : n + m ≤ maxLen) (b2 : (n + m) * bytes ≤ 140737488355328)
    (hK : ∀ ao' cap' w', Sat W0 w' (slc e size ao' (n + m) cap' (xs ++ news) :: L) → wpList P ops Q rest (a.put o.dst (.slice ao' (n + m) cap')) w') :
    wpList P ops Q (o :: rest) a w := by
  refine wpList_plain hg fun K hK' => ?_
  obtain ⟨ao', cap', w', hrun, S'⟩ := run_append_sat (P := P) t o.type e i z size bytes ht hi hz hsize hby hzs hsz S (c := c) hR hm h1 b1 b2
  unfold Oper.wp
  simp [execOp, hop, resolve, invoke, builtin, hs, hx, hrun, Result.andThen]
  exact hK' _ _ (hK ao' cap' w' S')

/-- append as one step of a region that draws its order -/
theorem step_append_sat {W0 w : World} {L : List Asn} {ops : Array Oper} {o : Oper} {a : Act} {K : Act → World → Prop} {Q : Exit → Act → World → Prop} {E : Prop}
    (hg : o.guard = none) (s x : Operand) (t : TypeId) (hop : o.op = Op.call { callee := Callee.builtin Builtin.append, args := #[s, x], argTypes := #[t, t] })
    (e : TypeId) (i : TypeInfo) (z : Value) (size bytes : Nat) (ht : P.underlying t = some (.slice e)) (hi : P.info? e = some i) (hz : i.zero = some z)
    (hsize : i.size = size) (hby : i.bytes = bytes) (hzs : z.cells.size = size) (hsz : 0 < size)
    {ao : Option Addr} {n cap : Nat} {xs : List Value} (S : Sat W0 w (slc e size ao n cap xs :: L)) (hs : a.eval s = .slice ao n cap)
    {axo : Option Addr} {m c : Nat} {news : List Value} (hx : a.eval x = .slice axo m c) (hR : Rd w axo news) (hm : news.length = m * size) (h1 : ∀ u ∈ news, u.oneCell' = true)
    (b1 : n + m ≤ maxLen) (b2 : (n + m) * bytes ≤ 140737488355328)
    (hK : ∀ ao' cap' w', Sat W0 w' (slc e size ao' (n + m) cap' (xs ++ news) :: L) → K (a.put o.dst (.slice ao' (n + m) cap')) w') :
    if Region.wanted o (yielded ops a.tmps) = true then Oper.wp P o a w K Q else E := by
  have hw : Region.wanted o (yielded ops a.tmps) = true := by simp [Region.wanted, hg]
  rw [if_pos hw]
  obtain ⟨ao', cap', w', hrun, S'⟩ := run_append_sat (P := P) t o.type e i z size bytes ht hi hz hsize hby hzs hsz S (c := c) hR hm h1 b1 b2
  unfold Oper.wp
  simp [execOp, hop, resolve, invoke, builtin, hs, hx, hrun, Result.andThen]
  exact hK ao' cap' w' S'

/-! ### copy -/
theorem run_copy_sat {W0 w : World} {L : List Asn} (dT sT ty elem : TypeId) (hu : P.underlying dT = some (.slice elem)) (hs : (P.info? elem).map (·.size) = some 1)
    {b o dLen dCap : Nat} {cs : List Value} {e : TypeId} (S : Sat W0 w (blk b cs e :: L)) {so : Option Addr} {sLen sCap : Nat} {news : List Value} (hR : Rd w so news) (hn : news.length = Nat.min sLen dLen)
    (hfit : o + news.length ≤ cs.length) (h1 : ∀ u ∈ news, u.oneCell' = true) :
    ∃ w', (Builtin.copy_ #[dT, sT] ty #[.slice (some ⟨b, o, none⟩) dLen dCap, .slice so sLen sCap]).run P w = .ok (goInt news.length) w' ∧ Sat W0 w' (blk b (cs.take o ++ news ++ cs.drop (o + news.length)) e :: L) := by
  cases news with
  | nil =>
    refine ⟨w, run_copy_none w dT sT ty elem _ _ dLen dCap sLen sCap hu hs (by simpa using hn.symm), ?_⟩
    simpa using S
  | cons u r =>
    obtain ⟨b', off', rfl, _⟩ := hR 0 u rfl
    refine ⟨_, run_copy_cells w dT sT ty elem b o dLen dCap _ sLen sCap (u :: r) hu hs hn (fun j v hj => by rw [Addr.add_lit]; exact hR.at hj) (fun j hj => ?_) (fun j _ => S.frozen 0 rfl _) h1, S.setCells o (u :: r) hfit⟩
    rw [S.cell 0 rfl, List.getElem?_eq_getElem (by omega)]
    rfl

theorem step_copy_sat {W0 w : World} {L : List Asn} {ops : Array Oper} {op : Oper} {a : Act} {K : Act → World → Prop} {Q : Exit → Act → World → Prop} {E : Prop} (hg : op.guard = none) (d s : Operand) (dT sT elem : TypeId)
    (hop : op.op = .call { callee := .builtin .copy, args := #[d, s], argTypes := #[dT, sT] }) (hu : P.underlying dT = some (.slice elem)) (hs : (P.info? elem).map (·.size) = some 1)
    {b o dLen dCap : Nat} {cs : List Value} {e : TypeId} (S : Sat W0 w (blk b cs e :: L)) (hd : a.eval d = .slice (some ⟨b, o, none⟩) dLen dCap)
    {so : Option Addr} {sLen sCap : Nat} {news : List Value} (hsv : a.eval s = .slice so sLen sCap) (hR : Rd w so news) (hn : news.length = Nat.min sLen dLen)
    (hfit : o + news.length ≤ cs.length) (h1 : ∀ u ∈ news, u.oneCell' = true)
    (hK : ∀ w', Sat W0 w' (blk b (cs.take o ++ news ++ cs.drop (o + news.length)) e :: L) → K (a.put op.dst (goInt news.length)) w') :
    if Region.wanted op (yielded ops a.tmps) = true then Oper.wp P op a w K Q else E := by
  have hw : Region.wanted op (yielded ops a.tmps) = true := by simp [Region.wanted, hg]
  rw [if_pos hw]
  obtain ⟨w', hrun, S'⟩ := run_copy_sat (P := P) dT sT op.type elem hu hs S (dLen := dLen) (dCap := dCap) (sCap := sCap) hR hn hfit h1
  unfold Oper.wp
  simp [execOp, hop, resolve, invoke, builtin, hd, hsv, hrun, Result.andThen]
  exact hK w' S'

theorem wpList_copy_sat {W0 w : World} {L : List Asn} {ops : Array Oper} {rest : List Oper} {op : Oper} {a : Act} {Q : Exit → Act → World → Prop} (hg : op.guard = none) (d s : Operand) (dT sT elem : TypeId)
    (hop : op.op = .call { callee := .builtin .copy, args := #[d, s], argTypes := #[dT, sT] }) (hu : P.underlying dT = some (.slice elem)) (hs : (P.info? elem).map (·.size) = some 1)
    {b o dLen dCap : Nat} {cs : List Value} {e : TypeId} (S : Sat W0 w (blk b cs e :: L)) (hd : a.eval d = .slice (some ⟨b, o, none⟩) dLen dCap)
    {so : Option Addr} {sLen sCap : Nat} {news : List Value} (hsv : a.eval s = .slice so sLen sCap) (hR : Rd w so news) (hn : news.length = Nat.min sLen dLen)
    (hfit : o + news.length ≤ cs.length) (h1 : ∀ u ∈ news, u.oneCell' = true)
    (hK : ∀ w', Sat W0 w' (blk b (cs.take o ++ news ++ cs.drop (o + news.length)) e :: L) → wpList P ops Q rest (a.put op.dst (goInt news.length)) w') :
    wpList P ops Q (op :: rest) a w := by
  refine wpList_plain hg fun K hK' => ?_
  obtain ⟨w', hrun, S'⟩ := run_copy_sat (P := P) dT sT op.type elem hu hs S (dLen := dLen) (dCap := dCap) (sCap := sCap) hR hn hfit h1
  unfold Oper.wp
  simp [execOp, hop, resolve, invoke, builtin, hd, hsv, hrun, Result.andThen]
  exact hK' _ _ (hK w' S')

/-! ### a whole array or struct, read and stored -/
def aggKind : TypeDesc → Bool
  | .struct _ | .array _ _ => true
  | _ => false

theorem run_isAgg {w : World} {ty : TypeId} {d : TypeDesc} (hu : P.underlying ty = some d) (hd : aggKind d = true) : (isAgg ty).run P w = .ok true w := by
  unfold isAgg
  rw [Sem.run_bind, run_underlying hu w]
  cases d <;> simp_all [aggKind]

theorem run_loadVar_part {w : World} {g off ty n : Nat} {cs : List Value} (hc : ∀ j, j < n → w.cell? ⟨g, off + j, none⟩ = cs[j]?) (hn : cs.length = n) {d : TypeDesc}
    (hu : P.underlying ty = some d) (hd : aggKind d = true) (hi : (P.info? ty).map (·.size) = some n) :
    (loadVar ty ⟨g, off, none⟩).run P w = .ok (.agg cs.toArray) w := by
  have hl : (loadCells ⟨g, off, none⟩ cs.length).run P w = .ok cs.toArray w :=
    run_loadCells_list (P := P) w ⟨g, off, none⟩ cs (fun j v hv => by
      have hj : j < n := by rw [← hn]; exact (List.getElem?_eq_some_iff.1 hv).1
      rw [Addr.add_lit, hc j hj, hv])
  cases hq : P.info? ty with
  | none => simp [hq] at hi
  | some i =>
    have hs : i.size = cs.length := by rw [hn]; simpa [hq] using hi
    simp [loadVar, Sem.run_bind, run_isAgg hu hd, sizeOf, typeInfo, hq, hs, hl]

theorem wp_load_part {w : World} {o : Oper} {a : Act} {K : Act → World → Prop} {Q : Exit → Act → World → Prop} (ty : TypeId) (x : Operand) (ho : o.op = .load ty x)
    {g off n : Nat} {cs : List Value} (hx : a.eval x = .pointer (some ⟨g, off, none⟩)) (hc : ∀ j, j < n → w.cell? ⟨g, off + j, none⟩ = cs[j]?) (hn : cs.length = n) {d : TypeDesc}
    (hu : P.underlying ty = some d) (hd : aggKind d = true) (hi : (P.info? ty).map (·.size) = some n)
    (h : K (a.put o.dst (.agg cs.toArray)) w) : o.wp P a w K Q := by
  unfold Oper.wp execOp
  simp only [ho, hx, Instr.loadAt, Instr.sureAddr, Sem.run_bind, Sem.run_pure, Result.andThen_ok, run_loadVar_part hc hn hu hd hi]
  exact h
theorem wpList_load_part {w : World} {ops : Array Oper} {rest : List Oper} {o : Oper} {a : Act} {Q : Exit → Act → World → Prop} (hgd : o.guard = none) (ty : TypeId) (x : Operand) (ho : o.op = .load ty x)
    {g off n : Nat} {cs : List Value} (hx : a.eval x = .pointer (some ⟨g, off, none⟩)) (hc : ∀ j, j < n → w.cell? ⟨g, off + j, none⟩ = cs[j]?) (hn : cs.length = n) {d : TypeDesc}
    (hu : P.underlying ty = some d) (hd : aggKind d = true) (hi : (P.info? ty).map (·.size) = some n)
    (h : wpList P ops Q rest (a.put o.dst (.agg cs.toArray)) w) : wpList P ops Q (o :: rest) a w :=
  wpList_plain hgd fun _ hK => wp_load_part ty x ho hx hc hn hu hd hi (hK _ _ h)

theorem step_load_part {w : World} {ops : Array Oper} {o : Oper} {a : Act} {K : Act → World → Prop} {Q : Exit → Act → World → Prop} {E : Prop} (hgd : o.guard = none) (ty : TypeId) (x : Operand) (ho : o.op = .load ty x)
    {g off n : Nat} {cs : List Value} (hx : a.eval x = .pointer (some ⟨g, off, none⟩)) (hc : ∀ j, j < n → w.cell? ⟨g, off + j, none⟩ = cs[j]?) (hn : cs.length = n) {d : TypeDesc}
    (hu : P.underlying ty = some d) (hd : aggKind d = true) (hi : (P.info? ty).map (·.size) = some n)
    (h : K (a.put o.dst (.agg cs.toArray)) w) : if Region.wanted o (yielded ops a.tmps) = true then Oper.wp P o a w K Q else E := by
  have hw : Region.wanted o (yielded ops a.tmps) = true := by simp [Region.wanted, hgd]
  rw [if_pos hw]
  exact wp_load_part ty x ho hx hc hn hu hd hi h

/-- the cells of a part of a block -/
theorem Sat.part {W0 w : World} {L : List Asn} {g : Nat} {cs : List Value} {e : TypeId} (S : Sat W0 w (blk g cs e :: L)) (off n : Nat) : ∀ j, j < n → w.cell? ⟨g, off + j, none⟩ = ((cs.drop off).take n)[j]? := by
  intro j hj
  rw [S.cell 0 rfl, List.getElem?_take, if_pos hj, List.getElem?_drop]

theorem run_storeVar_sat {W0 w : World} {L : List Asn} {g off ty n : Nat} {cs news : List Value} {e : TypeId} (S : Sat W0 w (blk g cs e :: L)) (hn : news.length = n) (hfit : off + n ≤ cs.length)
    (hi : (P.info? ty).map (·.size) = some n) (h1 : ∀ u ∈ news, u.oneCell' = true) :
    (storeVar ty ⟨g, off, none⟩ (.agg news.toArray)).run P w = .ok () (w.setCells g off news) := by
  have hst := run_storeCells_cells (P := P) g off news 0 w (fun j hj => by rw [Nat.add_zero, S.cell 0 rfl, List.getElem?_eq_getElem (by omega)]; rfl) (fun j _ => S.frozen 0 rfl _) h1
  simp only [Nat.add_zero] at hst
  cases hq : P.info? ty with
  | none => simp [hq] at hi
  | some i =>
    have hs : i.size = news.length := by rw [hn]; simpa [hq] using hi
    simp [storeVar, sizeOf, typeInfo, hq, Value.cells, hs, hst]

theorem wpList_store_sat {W0 w : World} {L : List Asn} {ops : Array Oper} {rest : List Oper} {o : Oper} {a : Act} {Q : Exit → Act → World → Prop} (hgd : o.guard = none) (ty : TypeId) (x y : Operand) (ho : o.op = .store ty x y)
    {g off n : Nat} {cs news : List Value} {e : TypeId} (S : Sat W0 w (blk g cs e :: L)) (hx : a.eval x = .pointer (some ⟨g, off, none⟩)) (hy : a.eval y = .agg news.toArray) (hn : news.length = n) (hfit : off + n ≤ cs.length)
    (hi : (P.info? ty).map (·.size) = some n) (h1 : ∀ u ∈ news, u.oneCell' = true)
    (h : ∀ w', Sat W0 w' (blk g (cs.take off ++ news ++ cs.drop (off + n)) e :: L) → wpList P ops Q rest (a.put o.dst undef) w') : wpList P ops Q (o :: rest) a w := by
  refine wpList_plain hgd fun K hK => ?_
  have S2 := S.setCells off news (by omega)
  rw [hn] at S2
  have h2 := hK _ _ (h _ S2)
  unfold Oper.wp execOp
  simp only [ho, hx, hy, Instr.storeAt, Instr.sureAddr, Sem.run_bind, Sem.run_pure, Result.andThen_ok, run_storeVar_sat S hn hfit hi h1]
  exact h2

theorem results_cell_sat {fn : Func} {p : Tmp} {ty : TypeId} (h : fn.results = #[.cell p ty]) (tmps : Array Value) {W0 w : World} {L : List Asn} {g : Nat} {cs : List Value} {e : TypeId} {d : TypeDesc} (S : Sat W0 w (blk g cs e :: L))
    (hp : tmps.getD p undef = .pointer (some ⟨g, 0, none⟩)) (hu : P.underlying ty = some d) (hd : aggKind d = true) (hi : (P.info? ty).map (·.size) = some cs.length) :
    (results fn tmps).run P w = .ok (.agg cs.toArray) w := by
  have hp' : tmps[p]?.getD undef = .pointer (some ⟨g, 0, none⟩) := by simpa using hp
  have hl := run_loadVar_part (P := P) (w := w) (g := g) (off := 0) (n := cs.length) (cs := cs) (fun j _ => by rw [S.cell 0 rfl, Nat.zero_add]) rfl hu hd hi
  simp [results, h, hp', asAddr, hl]
end
#print axioms wpList_copy_sat
#print axioms wpList_append_sat
end Go.Sep
