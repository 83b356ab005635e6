/-
  What an argument that came in tells the walk: whole numbers, truths, structs, arrays and slices of them.
-/
import Derived.Test.YtjdeeloemhjbhaaGreatSlice
import Derived.ProofKit
import Derived.ChangeArms
import Derived.Deep.Slices
import Derived.OpenShut
import Derived.SizedLaws
namespace Go.Sep
open Go.RowKit

/-- all old blocks are as they were -/
def Old (w w' : World) : Prop := ∀ k, k < w.heap.size → w'.heap[k]? = w.heap[k]?

structure Kd (α : Type) where
  sz : Nat
  R : World → List Value → α → Prop
  len : ∀ w cs x, R w cs x → cs.length = sz
  old : ∀ w w' cs x, Old w w' → R w cs x → R w' cs x

/-- every reading of that type is one of the kind -/
def Kd.Of {α : Type} (P : Program) (t : TypeId) (k : Kd α) : Prop :=
  P.cellsOf t = k.sz ∧ ∀ (H : Type) (enc : TypeId × Value → H) (w : World) (base : Nat) (spare : Nat → Bool) (held : Bool) (fuel : Nat) (cs : List Value) (x : DataW H × List MemPlace),
    DataW.trod enc P w base spare held fuel t cs = some x → (∀ n ∈ x.1.weights P t, n ≤ reachBytes) → ∃ a, k.R w cs a

theorem mem_weightsAll {H : Type} {P : Program} {e : TypeId} : ∀ {l : List (DataW H)} {d : DataW H} {n : Nat}, d ∈ l → n ∈ d.weights P e → n ∈ DataW.weightsAll P e l
  | [], d, n, h, _ => by simp at h
  | x :: r, d, n, h, hn => by
    simp only [DataW.weightsAll, List.mem_append]
    rcases List.mem_cons.1 h with rfl | h
    · exact .inl hn
    · exact .inr (mem_weightsAll h hn)

def Kd.int (k : IntKind) : Kd Int := ⟨1, fun _ cs n => cs = [.int k n] ∧ (Lit.int k n).wf = true, fun _ _ _ h => by rw [h.1]; rfl, fun _ _ _ _ _ h => h⟩
theorem Kd.of_int {P : Program} {t : TypeId} {k : IntKind} (hc : P.cellsOf t = 1) (hu : P.underlying t = some (.int k)) : (Kd.int k).Of P t :=
  ⟨hc, fun _ _ _ _ _ _ _ _ _ h _ => by obtain ⟨n, h1, _, h3⟩ := DataW.trod_int hu h; exact ⟨n, h1, h3⟩⟩

def Kd.bool : Kd Bool := ⟨1, fun _ cs b => cs = [.bool b], fun _ _ _ h => by rw [h]; rfl, fun _ _ _ _ _ h => h⟩
theorem Kd.of_bool {P : Program} {t : TypeId} (hc : P.cellsOf t = 1) (hu : P.underlying t = some .bool) : Kd.bool.Of P t :=
  ⟨hc, fun _ _ _ _ _ _ _ _ _ h _ => by obtain ⟨b, h1, _⟩ := DataW.trod_bool hu h; exact ⟨b, h1⟩⟩

/-- each of a row of elements -/
def Each {α : Type} (R : List Value → α → Prop) (els : List (List Value)) (xs : List α) : Prop :=
  els.length = xs.length ∧ ∀ (i : Nat) c x, els[i]? = some c → xs[i]? = some x → R c x
theorem Each.imp {α : Type} {R R' : List Value → α → Prop} {els : List (List Value)} {xs : List α} (h : Each R els xs) (hh : ∀ c x, R c x → R' c x) : Each R' els xs := ⟨h.1, fun i c x hc hx => hh _ _ (h.2 i c x hc hx)⟩

def Kd.pair {α β : Type} (a : Kd α) (b : Kd β) : Kd (α × β) :=
  ⟨a.sz + b.sz, fun w cs x => ∃ c1 c2, cs = c1 ++ c2 ∧ a.R w c1 x.1 ∧ b.R w c2 x.2,
   fun w cs x ⟨c1, c2, h, h1, h2⟩ => by rw [h, List.length_append, a.len _ _ _ h1, b.len _ _ _ h2],
   fun w w' cs x o ⟨c1, c2, h, h1, h2⟩ => ⟨c1, c2, h, a.old _ _ _ _ o h1, b.old _ _ _ _ o h2⟩⟩

theorem flatten_length {els : List (List Value)} {n : Nat} (h : ∀ c ∈ els, c.length = n) : els.flatten.length = els.length * n := by
  induction els with
  | nil => simp
  | cons c r ih =>
    rw [List.flatten_cons, List.length_append, ih (fun c hc => h c (by simp [hc])), h c (by simp), List.length_cons, Nat.succ_mul]
    omega

theorem Each.lens {α : Type} {k : Kd α} {w : World} {els : List (List Value)} {xs : List α} (h : Each (k.R w) els xs) : ∀ c ∈ els, c.length = k.sz := by
  intro c hc
  obtain ⟨i, hi⟩ := List.getElem?_of_mem hc
  have hlt : i < xs.length := by rw [← h.1]; exact (List.getElem?_eq_some_iff.1 hi).1
  exact k.len _ _ _ (h.2 i c xs[i] hi (List.getElem?_eq_getElem hlt))

def Kd.arr {α : Type} (n : Nat) (k : Kd α) : Kd (List α) :=
  ⟨n * k.sz, fun w cs xs => xs.length = n ∧ ∃ els : List (List Value), cs = els.flatten ∧ Each (k.R w) els xs,
   fun w cs xs ⟨h, els, h1, h2⟩ => by rw [h1, flatten_length h2.lens, h2.1, h],
   fun w w' cs xs o ⟨h, els, h1, h2⟩ => ⟨h, els, h1, h2.imp fun _ _ => k.old _ _ _ _ o⟩⟩

/-- a slice: where it begins, its length and capacity, its elements as cells, and what they are -/
structure Sl (α : Type) where
  ao : Option Addr
  len : Nat
  cap : Nat
  els : List (List Value)
  xs : List α

def Kd.sl {α : Type} (k : Kd α) : Kd (Sl α) :=
  ⟨1, fun w cs s => cs = [.slice s.ao s.len s.cap] ∧ s.xs.length = s.len ∧ Rd w s.ao s.els.flatten ∧ Each (k.R w) s.els s.xs ∧ s.len ≤ s.cap ∧ s.cap ≤ maxLen ∧ (s.ao = none → s.cap = 0) ∧ s.len ≤ reachBytes,
   fun w cs s h => by rw [h.1]; rfl,
   fun w w' cs s o h => ⟨h.1, h.2.1, h.2.2.1.grow o, h.2.2.2.1.imp fun _ _ => k.old _ _ _ _ o, h.2.2.2.2⟩⟩

theorem cells?_all {w : World} {base : Nat} {a : Addr} {n : Nat} {cs : List Value} (h : w.cells? base a n = some cs) : cs.length = n ∧ ∀ j u, cs[j]? = some u → w.cell? (a.add j) = some u := by
  obtain ⟨_, hl, hc⟩ := World.cells?_some h
  refine ⟨hl, fun j u hj => ?_⟩
  have hlt : j < n := by rw [← hl]; exact (List.getElem?_eq_some_iff.1 hj).1
  have := hc j hlt
  rw [this, hj]

theorem spot_none {w : World} {a : Addr} {j : Nat} {u : Value} (h : w.cell? (a.add j) = some u) (h0 : j = 0 ∨ ∃ u0, w.cell? (a.add 0) = some u0) : a.spot = none := by
  have h1 : ∃ u0, w.cell? (a.add 0) = some u0 := by
    rcases h0 with rfl | h0
    · exact ⟨u, h⟩
    · exact h0
  obtain ⟨u0, h1⟩ := h1
  obtain ⟨b, off, spot⟩ := a
  cases spot with
  | none => rfl
  | some s => simp [Addr.add, World.cell?] at h1; split at h1 <;> simp_all

theorem flatten_at {els : List (List Value)} {n : Nat} (h : ∀ c ∈ els, c.length = n) {j : Nat} {u : Value} (hj : els.flatten[j]? = some u) : ∃ c, els[j / n]? = some c ∧ c[j % n]? = some u := by
  induction els generalizing j with
  | nil => simp at hj
  | cons c r ih =>
    have hc := h c (by simp)
    rw [List.flatten_cons] at hj
    by_cases hlt : j < n
    · rw [List.getElem?_append_left (by omega)] at hj
      exact ⟨c, by rw [Nat.div_eq_of_lt hlt]; rfl, by rw [Nat.mod_eq_of_lt hlt]; exact hj⟩
    · rw [List.getElem?_append_right (by omega), hc] at hj
      obtain ⟨c', h1, h2⟩ := ih (fun c hc => h c (by simp [hc])) hj
      have hn : 0 < n := by
        rcases Nat.eq_zero_or_pos n with rfl | hp
        · have : r.flatten.length = 0 := by rw [flatten_length (n := 0) (fun c hc => h c (by simp [hc]))]; simp
          have := (List.getElem?_eq_some_iff.1 hj).1
          omega
        · exact hp
      have e1 : j / n = (j - n) / n + 1 := by
        conv => lhs; rw [show j = (j - n) + n by omega]
        exact Nat.add_div_right _ hn
      have e2 : j % n = (j - n) % n := by
        conv => lhs; rw [show j = (j - n) + n by omega]
        exact Nat.add_mod_right _ _
      exact ⟨c', by rw [e1]; exact h1, by rw [e2]; exact h2⟩

theorem Kd.of_sl {α : Type} {P : Program} {t e : TypeId} {k : Kd α} (hc : P.cellsOf t = 1) (hu : P.underlying t = some (.slice e)) (hk : k.Of P e) (hpos : 0 < k.sz) (hby : 0 < P.bytesOf e) : (Kd.sl k).Of P t := by
  refine ⟨hc, fun H enc w base spare held fuel cs x h hw => ?_⟩
  rcases Deep.open_slice hu h with ⟨rfl, _⟩ | ⟨a, len, cap, m, n, D, Pl, rfl, hb, hl, hm, hmm, hxx, hx⟩
  · exact ⟨⟨none, 0, 0, [], []⟩, rfl, rfl, Rd.nil _ _, ⟨rfl, fun i c x hc => by simp at hc⟩, Nat.le_refl _, Nat.zero_le _, fun _ => rfl, Nat.zero_le _⟩
  · rw [hxx] at hw
    simp only [DataW.weights, hu] at hw
    have hlen : len ≤ reachBytes := by
      have h1 := hw _ (List.mem_cons_self ..)
      rw [List.length_map, List.length_range] at h1
      exact Nat.le_trans (Nat.le_trans (Nat.le_add_right len _) (Nat.le_mul_of_pos_right _ hby)) h1
    have hlm : len ≤ m := by rw [hmm]; split <;> omega
    have hx' : ∀ i, i < len → ∃ (y : List Value × α), w.cells? base (a.add (i * k.sz)) k.sz = some y.1 ∧ k.R w y.1 y.2 := by
      intro i hi
      obtain ⟨cs', h1, h2⟩ := hx i (by omega)
      obtain ⟨y, hy⟩ := hk.2 _ _ _ _ _ _ _ _ _ h2 (fun n hn => hw n (List.mem_cons_of_mem _ (List.mem_append.2 (.inl (mem_weightsAll (List.mem_map.2 ⟨i, List.mem_range.2 hi, rfl⟩) hn)))))
      rw [hk.1] at h1
      exact ⟨(cs', y), h1, hy⟩
    have key : ∀ len, (∀ i, i < len → ∃ (y : List Value × α), w.cells? base (a.add (i * k.sz)) k.sz = some y.1 ∧ k.R w y.1 y.2) →
        ∃ (els : List (List Value)) (xs : List α), els.length = len ∧ Each (k.R w) els xs ∧ ∀ (i : Nat) c, els[i]? = some c → w.cells? base (a.add (i * k.sz)) k.sz = some c := by
      intro len
      induction len with
      | zero => intro _; exact ⟨[], [], rfl, ⟨rfl, fun i c x hc => by simp at hc⟩, fun i c hc => by simp at hc⟩
      | succ len ih =>
        intro hall
        obtain ⟨els, xs, h1, h2, h3⟩ := ih (fun i hi => hall i (by omega))
        obtain ⟨y, h4, h5⟩ := hall len (by omega)
        refine ⟨els ++ [y.1], xs ++ [y.2], by simp [h1], ⟨by simp [h2.1], ?_⟩, ?_⟩
        · intro i c x hc hx
          rcases Nat.lt_or_ge i len with hlt | hge
          · rw [List.getElem?_append_left (by omega)] at hc
            rw [List.getElem?_append_left (by rw [← h2.1]; omega)] at hx
            exact h2.2 i c x hc hx
          · rw [List.getElem?_append_right (by omega)] at hc
            rw [List.getElem?_append_right (by rw [← h2.1]; omega), ← h2.1] at hx
            have hi : i - els.length = 0 := by
              have := (List.getElem?_eq_some_iff.1 hc).1
              simp at this; omega
            rw [hi] at hc hx
            simp at hc hx
            subst hc; subst hx
            exact h5
        · intro i c hc
          rcases Nat.lt_or_ge i len with hlt | hge
          · rw [List.getElem?_append_left (by omega)] at hc
            exact h3 i c hc
          · rw [List.getElem?_append_right (by omega)] at hc
            have hi : i - els.length = 0 := by
              have := (List.getElem?_eq_some_iff.1 hc).1
              simp at this; omega
            rw [hi] at hc
            simp at hc
            subst hc
            rw [show i = len by omega]
            exact h4
    obtain ⟨els, xs, h1, h2, h3⟩ := key len hx'
    refine ⟨⟨some a, len, cap, els, xs⟩, rfl, by rw [← h2.1]; exact h1, ?_, h2, hl, hm, (fun h => nomatch h), hlen⟩
    intro j u hj
    obtain ⟨c, hc1, hc2⟩ := flatten_at h2.lens hj
    obtain ⟨hcl, hcell⟩ := cells?_all (h3 _ _ hc1)
    have hcj := hcell _ _ hc2
    have hdm : j / k.sz * k.sz + j % k.sz = j := by rw [Nat.mul_comm]; exact Nat.div_add_mod j k.sz
    rw [Deep.add_add, hdm] at hcj
    have hlen0 : 0 < els.length := Nat.lt_of_le_of_lt (Nat.zero_le _) (List.getElem?_eq_some_iff.1 hc1).1
    have hs : a.spot = none := by
      refine spot_none hcj (.inr ?_)
      obtain ⟨hcl0, hcell0⟩ := cells?_all (h3 0 els[0] (List.getElem?_eq_getElem hlen0))
      have h00 := hcell0 0 (els[0][0]'(by omega)) (List.getElem?_eq_getElem (by omega))
      rw [Deep.add_add, Nat.zero_mul] at h00
      exact ⟨_, h00⟩
    obtain ⟨b, off, spot⟩ := a
    cases hs
    rw [Addr.add_lit] at hcj
    exact ⟨b, off, rfl, hcj⟩

theorem Kd.of_arr {α : Type} {P : Program} {t e : TypeId} {n : Nat} {k : Kd α} (hc : P.cellsOf t = n * k.sz) (hu : P.underlying t = some (.array n e)) (hk : k.Of P e) : (Kd.arr n k).Of P t := by
  refine ⟨hc, fun H enc w base spare held fuel cs x h hw => ?_⟩
  obtain ⟨ys, m, _, hxx, hl, hys, hall⟩ := DataW.trod_array hu h
  rw [hk.1] at hall
  rw [hc] at hl
  have key : ∀ i, i < n → ∃ a, k.R w ((cs.drop (i * k.sz)).take k.sz) a := by
    intro i hi
    have hlt : i < ys.length := by rw [hys]; exact hi
    refine hk.2 _ _ _ _ _ _ _ _ ys[i] (by rw [hall i hi, List.getElem?_eq_getElem hlt]) (fun q hq => hw q ?_)
    rw [hxx]
    simp only [DataW.weights, hu]
    exact mem_weightsAll (List.mem_map.2 ⟨ys[i], List.getElem_mem _, rfl⟩) hq
  have go : ∀ (m : Nat) (cs : List Value), cs.length = m * k.sz → (∀ i, i < m → ∃ a, k.R w ((cs.drop (i * k.sz)).take k.sz) a) → ∃ xs : List α, xs.length = m ∧ ∃ els : List (List Value), cs = els.flatten ∧ Each (k.R w) els xs := by
    intro m
    induction m with
    | zero =>
      intro cs hcs _
      rw [Nat.zero_mul] at hcs
      exact ⟨[], rfl, [], List.eq_nil_of_length_eq_zero hcs, ⟨rfl, fun i c x hc => by simp at hc⟩⟩
    | succ m ih =>
      intro cs hcs hk
      rw [Nat.succ_mul] at hcs
      obtain ⟨a, ha⟩ := hk 0 (by omega)
      rw [Nat.zero_mul, List.drop_zero] at ha
      obtain ⟨xs, h1, els, h2, h3⟩ := ih (cs.drop k.sz) (by rw [List.length_drop]; omega) (fun i hi => by
        have := hk (i + 1) (by omega)
        rw [Nat.succ_mul, Nat.add_comm] at this
        rw [List.drop_drop]
        exact this)
      refine ⟨a :: xs, by simp [h1], cs.take k.sz :: els, by rw [List.flatten_cons, ← h2, List.take_append_drop], by simp [h3.1], ?_⟩
      intro i c x hc hx
      cases i with
      | zero => simp at hc hx; subst hc; subst hx; exact ha
      | succ i => exact h3.2 i c x (by simpa using hc) (by simpa using hx)
  obtain ⟨xs, h1, h2⟩ := go n cs hl key
  exact ⟨xs, h1, h2⟩

/-- the fields of a struct, one behind the other from a place on -/
inductive FieldsOf (P : Program) : {α : Type} → List Field → Nat → Kd α → Prop
  | one {α : Type} {f : Field} {off : Nat} {k : Kd α} : f.offset = off → k.Of P f.type → FieldsOf P [f] off k
  | more {α β : Type} {f : Field} {fs : List Field} {off : Nat} {k : Kd α} {r : Kd β} : f.offset = off → k.Of P f.type → FieldsOf P fs (off + k.sz) r → FieldsOf P (f :: fs) off (Kd.pair k r)

theorem fields_all {P : Program} {H : Type} {enc : TypeId × Value → H} {w : World} {base : Nat} {spare : Nat → Bool} {held : Bool} {n : Nat} {α : Type} {fs : List Field} {off : Nat} {k : Kd α} (hf : FieldsOf P fs off k) :
    ∀ (cs : List Value), cs.length = off + k.sz → (∀ f ∈ fs, ∃ x, DataW.trod enc P w base spare held n f.type ((cs.drop f.offset).take (P.cellsOf f.type)) = some x ∧ ∀ q ∈ x.1.weights P f.type, q ≤ reachBytes) → ∃ a, k.R w (cs.drop off) a := by
  induction hf with
  | one ho hk =>
    intro cs hcs hall
    rename_i f off k
    obtain ⟨x, hx, hxw⟩ := hall f (by simp)
    rw [ho, hk.1, List.take_of_length_le (by rw [List.length_drop]; omega)] at hx
    exact hk.2 _ _ _ _ _ _ _ _ _ hx hxw
  | more ho hk _ ih =>
    intro cs hcs hall
    rename_i f fs off k r _
    have hsz : (Kd.pair k r).sz = k.sz + r.sz := rfl
    rw [hsz] at hcs
    obtain ⟨x, hx, hxw⟩ := hall f (by simp)
    rw [ho, hk.1] at hx
    obtain ⟨a, ha⟩ := hk.2 _ _ _ _ _ _ _ _ _ hx hxw
    obtain ⟨b, hb⟩ := ih cs (by omega) (fun g hg => hall g (by simp [hg]))
    refine ⟨(a, b), (cs.drop off).take k.sz, (cs.drop off).drop k.sz, (List.take_append_drop _ _).symm, ha, ?_⟩
    rw [List.drop_drop]
    exact hb

theorem Kd.of_struct {P : Program} {t : TypeId} {fs : Array Field} {α : Type} {k : Kd α} (hu : P.underlying t = some (.struct fs)) (hc : P.cellsOf t = k.sz) (hf : FieldsOf P fs.toList 0 k) : k.Of P t := by
  refine ⟨hc, fun H enc w base spare held fuel cs x h hw => ?_⟩
  obtain ⟨xs, n, _, hxx, hl, hxs, hall⟩ := DataW.trod_struct hu h
  have := fields_all (enc := enc) (w := w) (base := base) (spare := spare) (held := held) (n := n) hf cs (by rw [hl, hc]; omega) (fun f hfm => by
    obtain ⟨i, hi⟩ := List.getElem?_of_mem hfm
    have hi' : fs[i]? = some f := by simpa using hi
    have hlt : i < xs.length := by rw [hxs]; exact (Array.getElem?_eq_some_iff.1 hi').1
    refine ⟨xs[i], by rw [hall i f hi', List.getElem?_eq_getElem hlt], fun q hq => hw q ?_⟩
    rw [hxx]
    simp only [DataW.weights, hu]
    exact DataW.weights_mem_each (j := i) (t := f.type) (d := xs[i].1) (by rw [List.getElem?_map, hi]; rfl) (by rw [List.getElem?_map, List.getElem?_eq_getElem hlt]; rfl) _ hq)
  rwa [List.drop_zero] at this

theorem okWide_agg {P : Program} {w : World} {r : Reach} {base : Nat} {t : TypeId} {v : Value} {fs : Array Field} (hu : P.underlying t = some (.struct fs)) (h : Value.okWide P w r base t v) : ∃ cs, v = .agg cs := by
  unfold Value.okWide at h
  rw [hu] at h
  obtain ⟨cs, h, _⟩ := h
  exact ⟨cs, h⟩
theorem okWide_agg_arr {P : Program} {w : World} {r : Reach} {base : Nat} {t : TypeId} {v : Value} {n : Nat} {e : TypeId} (hu : P.underlying t = some (.array n e)) (h : Value.okWide P w r base t v) : ∃ cs, v = .agg cs := by
  unfold Value.okWide at h
  rw [hu] at h
  obtain ⟨cs, h, _⟩ := h
  exact ⟨cs, h⟩
end Go.Sep
