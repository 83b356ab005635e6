/-
  LiE, LiE2, LiB4, LiJ, LiF, LiLwEnds in one text (wip/tools/joint.py)
-/
import Derived.Test.YtdgalljalcediaaLiQ
import Derived.Test.YtdgalljalcediaaLiB2
import Derived.Test.YtdgalljalcediaaLiI
import Derived.Test.YtdgalljalcediaaLi2
import Derived.Test.YtdgalljalcediaaLaw0
import Derived.Test.YtdgalljalcediaaLiV
import Derived.Test.YtdgalljalcediaaLiK
import Derived.Test.YtdgalljalcediaaLi5
import Derived.Test.YtdgalljalcediaaLiLwAnyBytes

section
namespace Go.Oct
open Go.RowKit

def pn (p : List Int) : Int := (lparts (openF p).1).n
def pa (p : List Int) : Int := (lparts (openF p).1).ack
theorem pn_pack {id n came : Int} {row : List Int} (h1 : I64 id) (h2 : I64 n) (h3 : I64 came) (hl : row.length ≤ 4096) (h0 : n ≤ 0 → row = []) : pn (packP id n came row) = n ∧ pa (packP id n came row) = came := by
  unfold pn pa
  rw [openF_pack (by omega)]
  dsimp only
  rw [lparts_pack h1 h2 h3 (by omega) h0]
  exact ⟨rfl, rfl⟩
def run : Int → List Int → Int
  | c, [] => c
  | c, n :: l => run (if n = c + 1 then c + 1 else c) l
theorem run_append : ∀ (l m : List Int) (c : Int), run c (l ++ m) = run (run c l) m
  | [], m, c => rfl
  | n :: l, m, c => by simp only [List.cons_append, run]; exact run_append l m _
theorem run_range : ∀ (u : Nat) (f c : Int), f - 1 ≤ c → c ≤ f + u - 1 → run c ((List.range u).map fun j : Nat => f + j) = f + u - 1
  | 0, f, c, h1, h2 => by simp only [List.range_zero, List.map_nil, run]; omega
  | u + 1, f, c, h1, h2 => by
    rw [List.range_succ_eq_map, List.map_cons, List.map_map]
    simp only [run]
    have e : ((List.range u).map ((fun j : Nat => f + (j : Int)) ∘ Nat.succ)) = (List.range u).map fun j : Nat => (f + 1) + (j : Int) := by
      apply List.map_congr_left
      intro j _
      show f + ((j + 1 : Nat) : Int) = _
      omega
    rw [e]
    by_cases h : f = c + 1
    · simp only [Int.natCast_zero, Int.add_zero]; rw [if_pos h, run_range u (f + 1) (c + 1) (by omega) (by omega)]; omega
    · simp only [Int.natCast_zero, Int.add_zero]; rw [if_neg h, run_range u (f + 1) c (by omega) (by omega)]; omega
def to1 (way : List (Int × List Int)) : List Int := (way.filter fun p => p.1 = 1).map fun p => pn p.2
theorem to1_append (a b : List (Int × List Int)) : to1 (a ++ b) = to1 a ++ to1 b := by simp [to1]
theorem to1_cons1 (p : List Int) (way : List (Int × List Int)) : to1 ((1, p) :: way) = pn p :: to1 way := by simp [to1]
theorem to1_cons0 (p : List Int) (way : List (Int × List Int)) : to1 ((0, p) :: way) = to1 way := by simp [to1]
theorem to1_map1 (l : List (List Int)) : to1 (l.map fun x => ((1 : Int), x)) = l.map pn := by
  induction l with
  | nil => rfl
  | cons x r ih => rw [List.map_cons, to1_cons1, ih, List.map_cons]
theorem to1_map0 (l : List (List Int)) : to1 (l.map fun x => ((0 : Int), x)) = [] := by
  induction l with
  | nil => rfl
  | cons x r ih => rw [List.map_cons, to1_cons0, ih]
def wt (way : List (Int × List Int)) : Nat := (way.map fun p => if p.1 = 1 then 2 else 1).sum
theorem wt_append (a b : List (Int × List Int)) : wt (a ++ b) = wt a + wt b := by simp [wt]
theorem wt_cons (p : Int × List Int) (way : List (Int × List Int)) : wt (p :: way) = (if p.1 = 1 then 2 else 1) + wt way := by simp [wt]
theorem wt_map1 (l : List (List Int)) : wt (l.map fun x => ((1 : Int), x)) = 2 * l.length := by
  induction l with
  | nil => rfl
  | cons x r ih => rw [List.map_cons, wt_cons, ih, List.length_cons, if_pos rfl]; omega
theorem wt_map0 (l : List (List Int)) : wt (l.map fun x => ((0 : Int), x)) = l.length := by
  induction l with
  | nil => rfl
  | cons x r ih => rw [List.map_cons, wt_cons, ih, List.length_cons, if_neg (by simp)]; omega
def mu (G : List (List Int)) (a : LS) (way : List (Int × List Int)) : Nat := wt way + 2 * (G.length + 1 - (a.first + a.under)).toNat
structure EInv (id N : Int) (G : List (List Int)) (a b : LS) (cb : List (List Int)) (way : List (Int × List Int)) : Prop where
  e : Ends2 id N G [] a b G.length 0 [] cb
  w : Way2 id G [] a b way
  full : a.under = min a.rows.length 16
def JJ (a b : LS) (way : List (Int × List Int)) : Prop :=
  run b.came (to1 way) = a.first + a.under - 1 ∧ (b.came < a.first ∨ (∃ p ∈ way, p.1 = 1 ∧ 0 < pn p.2) ∨ ∃ p ∈ way, p.1 = 0 ∧ pa p.2 = b.came)
theorem fill_full (s : LS) (h : s.under ≤ s.rows.length) (h16 : s.under ≤ 16) : (fillP s).2.under = min (fillP s).2.rows.length 16 := by
  show s.under + s.room = min s.rows.length 16
  unfold LS.room
  omega
theorem none_rows {id N : Int} {G : List (List Int)} {a b : LS} {cb : List (List Int)} {k : Nat} (h : Ends2 id N G [] a b k 0 [] cb) : b.rows = [] ∧ b.under = 0 ∧ b.first = 1 ∧ a.came = 0 := by
  have h1 := h.fb.rows
  have h2 := h.fb.ul
  have h3 := h.fb.fk
  have h4 := h.fb.f1
  have h5 := h.fb.hi
  have h6 := h.oka.c0
  simp only [List.take_nil, List.drop_nil] at h1
  rw [h1] at h2
  simp only [List.length_nil] at h2
  exact ⟨h1, by omega, by omega, by omega⟩
theorem EInv.first {id N : Int} {G : List (List Int)} {a b : LS} {cb : List (List Int)} {way : List (Int × List Int)} (h : EInv id N G a b cb way) : a.first + a.under - 1 ≤ G.length := h.e.fa.under_k
/-- a packet comes to the end that gets the rows -/
theorem EInv.hear1 {id N : Int} {G : List (List Int)} {a b : LS} {cb : List (List Int)} {p : List Int} {way : List (Int × List Int)} (h : EInv id N G a b cb ((1, p) :: way)) (hN : N ≤ 900000000000) :
    EInv id (N + 40) G a (hearP b p).2.2 (cb ++ (hearP b p).1) (way ++ (hearP b p).2.1.map fun x => ((0 : Int), x)) ∧ mu G a (way ++ (hearP b p).2.1.map fun x => ((0 : Int), x)) < mu G a ((1, p) :: way) ∧
      (JJ a b ((1, p) :: way) → JJ a (hearP b p).2.2 (way ++ (hearP b p).2.1.map fun x => ((0 : Int), x))) := by
  have hp : Pkt id G a p := by
    rcases h.w (1, p) (by simp) with ⟨-, x⟩ | ⟨x, -⟩
    · exact x
    · cases x
  obtain ⟨E, P, f, c⟩ := h.e.hear (by omega) hp
  have W := h.w
  obtain ⟨n, ack, row, rfl, hn, hn2, hr0, hr, ha, ha2⟩ := hp
  have hc := hear_cases h.e (by omega) hn hn2 hr0 hr ha ha2
  obtain ⟨bz, bu, bf, ac⟩ := none_rows h.e
  obtain ⟨q, hq⟩ : ∃ q : LP, (⟨id, n, ack, row, 0⟩ : LP) = q := ⟨_, rfl⟩
  rw [hq] at hc
  have q1 : q.n = n := by rw [← hq]
  have hca := gotP_came (s := b) (q := q)
  rw [q1] at hca
  have hg := h.e.okb.got q
  have hgr : (gotP b q).rows = [] := by
    obtain ⟨-, g2, -⟩ := gotP_first (s := b) (q := q)
    rw [g2, bu]
    exact bz
  have hz : (fillP (gotP b q)).1 = [] := by
    show outP _ _ = []
    have : (gotP b q).room = 0 := by unfold LS.room; rw [hgr]; simp
    rw [this]; rfl
  have hu := h.e.fa.under_k
  have hkl := h.e.fa.kl
  have hrl : row.length ≤ 4096 := by
    rcases Int.lt_or_le 0 n with h0 | h0
    · refine (h.e.sa row ?_).2
      have e := hr h0
      refine List.mem_of_getElem? (i := (n - 1).toNat) ?_
      rw [List.getElem?_take, if_pos (by omega), e]
    · rw [hr0 h0]; simp
  have hid : I64 id := by rw [← h.e.ida]; exact h.e.oka.id
  have hnI : I64 n := by have := h.e.oka.fN; have := h.e.oka.u16; unfold I64; omega
  have hac : I64 ack := by have := h.e.oka.cN; unfold I64; omega
  have hpn := (pn_pack hid hnI hac hrl hr0).1
  have hcI : I64 (gotP b q).came := by have := hg.c0; have := hg.cN; unfold I64; omega
  have hpa := (pn_pack hid (n := 0) (came := (gotP b q).came) (row := []) (by unfold I64; omega) hcI (by simp) (fun _ => rfl)).2
  rw [hz] at hc
  rw [hc] at E P f c ⊢
  have HW : Way2 id G [] a b way := W.sub (fun p hp => by simp [hp])
  by_cases h0 : 0 < n
  · have hcond : (0 < n ∧ ([] : List (List Int)) = []) := ⟨h0, rfl⟩
    rw [if_pos hcond] at E P f c ⊢
    refine ⟨⟨E, (HW.right f c).add0 P, h.full⟩, ?_, ?_⟩
    · unfold mu
      rw [wt_append, wt_map0, wt_cons, if_pos rfl]
      simp only [List.length_singleton]; omega
    · rintro ⟨j1, j2⟩
      rw [to1_cons1, hpn] at j1
      refine ⟨?_, .inr (.inr ⟨(0, packP id 0 (gotP b q).came []), by simp, rfl, hpa⟩)⟩
      rw [to1_append, to1_map0, List.append_nil, ← j1]
      show run (gotP b q).came _ = run (if n = b.came + 1 then b.came + 1 else b.came) _
      rw [hca]
      by_cases e : n = b.came + 1
      · rw [if_pos ⟨by omega, e⟩, if_pos e]
      · rw [if_neg (fun x => e x.2), if_neg e]
  · have hcond : ¬ (0 < n ∧ ([] : List (List Int)) = []) := fun x => h0 x.1
    rw [if_neg hcond] at E P f c ⊢
    refine ⟨⟨E, (HW.right f c).add0 P, h.full⟩, ?_, ?_⟩
    · unfold mu
      rw [wt_append, wt_map0, wt_cons, if_pos rfl]
      simp only [List.length_nil]; omega
    · rintro ⟨j1, j2⟩
      rw [to1_cons1, hpn] at j1
      have c0 := h.e.okb.c0
      have e1 : (gotP b q).came = b.came := by rw [hca, if_neg (fun x => x.1 (by omega))]
      refine ⟨?_, ?_⟩
      · rw [to1_append, to1_map0, List.append_nil, ← j1]
        show run (gotP b q).came _ = run (if n = b.came + 1 then b.came + 1 else b.came) _
        rw [e1, if_neg (by omega)]
      · show (gotP b q).came < _ ∨ _ ∨ ∃ p ∈ _, _ ∧ _ = (gotP b q).came
        rw [e1]
        rcases j2 with j | ⟨x, hx, x1, x2⟩ | ⟨x, hx, x1, x2⟩
        · exact .inl j
        · refine .inr (.inl ⟨x, ?_, x1, x2⟩)
          rcases List.mem_cons.1 hx with rfl | hx
          · simp only at x2; rw [hpn] at x2; omega
          · simp [hx]
        · refine .inr (.inr ⟨x, ?_, x1, x2⟩)
          rcases List.mem_cons.1 hx with rfl | hx
          · cases x1
          · simp [hx]
/-- a packet comes to the end that has rows go out -/
theorem EInv.hear0 {id N : Int} {G : List (List Int)} {a b : LS} {cb : List (List Int)} {p : List Int} {way : List (Int × List Int)} (h : EInv id N G a b cb ((0, p) :: way)) (hN : N ≤ 900000000000) :
    EInv id (N + 40) G (hearP a p).2.2 b cb (way ++ (hearP a p).2.1.map fun x => ((1 : Int), x)) ∧ mu G (hearP a p).2.2 (way ++ (hearP a p).2.1.map fun x => ((1 : Int), x)) < mu G a ((0, p) :: way) ∧
      (JJ a b ((0, p) :: way) → JJ (hearP a p).2.2 b (way ++ (hearP a p).2.1.map fun x => ((1 : Int), x))) := by
  have hp : Pkt id [] b p := by
    rcases h.w (0, p) (by simp) with ⟨x, -⟩ | ⟨-, x⟩
    · cases x
    · exact x
  obtain ⟨E, P, f, c⟩ := h.e.swap.hear (by omega) hp
  have W := h.w
  obtain ⟨bz, bu, bf, ac⟩ := none_rows h.e
  obtain ⟨n, ack, row, rfl, hn, hn2, hr0, hr, ha, ha2⟩ := hp
  obtain rfl : n = 0 := by omega
  obtain rfl : row = [] := hr0 (Int.le_refl _)
  have hc := hear_cases h.e.swap (by omega) hn hn2 hr0 hr ha ha2
  obtain ⟨q, hq⟩ : ∃ q : LP, (⟨id, 0, ack, [], 0⟩ : LP) = q := ⟨_, rfl⟩
  rw [hq] at hc
  have q1 : q.n = 0 := by rw [← hq]
  have q2 : q.ack = ack := by rw [← hq]
  rw [if_neg (fun x => by omega)] at hc
  have hca := gotP_came (s := a) (q := q)
  rw [q1, if_neg (fun x => x.1 rfl)] at hca
  have hg := h.e.oka.got q
  obtain ⟨g1, g2, g3, g4, -⟩ := gotP_first (s := a) (q := q)
  rw [q2] at g1 g2 g3
  obtain ⟨f1, f2, f3, f4⟩ := h.e.fa.acks ha2
  rw [hc] at E P f c ⊢
  have HW : Way2 id G [] a b way := W.sub (fun p hp => by simp [hp])
  have hid : I64 id := by rw [← h.e.ida]; exact h.e.oka.id
  have hac : I64 ack := by have := h.e.okb.cN; unfold I64; omega
  have hpa := (pn_pack hid (n := 0) (came := ack) (row := []) (by unfold I64; omega) hac (by simp) (fun _ => rfl)).2
  have EE := E.swap
  have hroom : (fillP (gotP a q)).2.first + ((fillP (gotP a q)).2.under : Int) = a.first + a.under + (gotP a q).room := by
    show (gotP a q).first + (((gotP a q).under + (gotP a q).room : Nat) : Int) = _
    rw [g1, g3]; omega
  have hlen : (fillP (gotP a q)).1.length = (gotP a q).room := outP_length _ _
  refine ⟨⟨?_, (HW.left f c).add1 P, fill_full _ hg.ul hg.u16⟩, ?_, ?_⟩
  · have e0 : newRows a q = [] := by rw [newRows_eq, q1, if_neg (fun x => x.1 rfl)]
    rw [e0] at EE
    exact EE
  · have hk := h.first
    have hk2 := EE.fa.under_k
    dsimp only at hk2
    unfold mu
    rw [wt_append, wt_map1, wt_cons, if_neg (by simp), hlen, hroom]
    rw [hroom] at hk2
    omega
  · rintro ⟨j1, j2⟩
    rw [to1_cons0] at j1
    refine ⟨?_, ?_⟩
    · rw [to1_append, to1_map1, run_append, j1, hroom]
      have e1 : (fillP (gotP a q)).1.map pn = (List.range (gotP a q).room).map fun j : Nat => (a.first + a.under) + (j : Int) := by
        show (outP _ _).map pn = _
        unfold outP
        rw [List.map_map]
        apply List.map_congr_left
        intro j hj
        have hj' := List.mem_range.1 hj
        have hr16 := (gotP a q).room_le
        have hu16 := hg.u16
        have hf1 := hg.f1
        have hfN := hg.fN
        obtain ⟨-, hL⟩ := getD_row hg ((gotP a q).under + j)
        have := (pn_pack (id := (gotP a q).id) (n := (gotP a q).first + ((gotP a q).under : Int) + (j : Int)) (came := (gotP a q).came) (row := (gotP a q).rows[(gotP a q).under + j]?.getD []) hg.id (by unfold I64; omega) (hg.i64 (by omega)) hL (fun h => absurd h (by omega))).1
        show pn (packP _ _ _ _) = _
        rw [this, g1, g3]; omega
      rw [e1, run_range _ _ _ (by omega) (by omega)]
    · show b.came < (gotP a q).first ∨ _
      rw [g1]
      have hfle : a.first ≤ (ackP ack a.under a).first := by
        obtain ⟨d, d1, d2, d3, -⟩ := ackP_gone (ack := ack) a.under a rfl h.e.fa.ul
        rw [d3]; omega
      rcases j2 with j | ⟨x, hx, x1, x2⟩ | ⟨x, hx, x1, x2⟩
      · exact .inl (by omega)
      · refine .inr (.inl ⟨x, ?_, x1, x2⟩)
        rcases List.mem_cons.1 hx with rfl | hx
        · cases x1
        · simp [hx]
      · rcases List.mem_cons.1 hx with rfl | hx
        · refine .inl (f4 ?_)
          simp only at x2; rw [hpa] at x2; exact x2
        · exact .inr (.inr ⟨x, by simp [hx], x1, x2⟩)
theorem EInv.lose {id N : Int} {G : List (List Int)} {a b : LS} {cb : List (List Int)} {p : Int × List Int} {way : List (Int × List Int)} (h : EInv id N G a b cb (p :: way)) : EInv id N G a b cb way ∧ mu G a way < mu G a (p :: way) := by
  refine ⟨⟨h.e, h.w.sub (fun p hp => by simp [hp]), h.full⟩, ?_⟩
  unfold mu
  rw [wt_cons]
  split <;> omega
def Done (G : List (List Int)) (a : LS) (cb : List (List Int)) (way : List (Int × List Int)) : Prop := way = [] ∧ a.rows = [] ∧ cb = G
theorem EInv.done {id N : Int} {G : List (List Int)} {a b : LS} {cb : List (List Int)} (h : EInv id N G a b cb []) (hu : a.under = 0) : Done G a cb [] := by
  have h1 := h.full
  have h2 : a.rows = [] := List.eq_nil_of_length_eq_zero (by omega)
  refine ⟨rfl, h2, ?_⟩
  have h3 := h.e.fa.rows
  have h4 := h.e.fa.lo
  rw [h2, List.take_length] at h3
  have h5 := congrArg List.length h3
  rw [List.length_drop, List.length_nil] at h5
  rw [h.e.fa.came, List.take_of_length_le (by omega)]
theorem JJ.done {id N : Int} {G : List (List Int)} {a b : LS} {cb : List (List Int)} (h : EInv id N G a b cb []) (j : JJ a b []) : Done G a cb [] := by
  obtain ⟨j1, j2⟩ := j
  simp only [to1, List.filter_nil, List.map_nil, run] at j1
  refine h.done ?_
  rcases j2 with j | ⟨x, hx, _⟩ | ⟨x, hx, _⟩
  · omega
  · simp at hx
  · simp at hx
/-- how far it is from the end, in rounds without a loss -/
def Near (d : Nat) (G : List (List Int)) (a b : LS) (cb : List (List Int)) (way : List (Int × List Int)) : Prop :=
  Done G a cb way ∨ (1 ≤ d ∧ JJ a b way) ∨ (2 ≤ d ∧ way = [] ∧ 0 < a.under ∧ 6 ≤ a.waited + d) ∨ 7 ≤ d
/-- while a round is under way: the packets that are left -/
def Mid (d : Nat) (G : List (List Int)) (a b : LS) (cb : List (List Int)) (way : List (Int × List Int)) : Prop :=
  Done G a cb way ∨ (1 ≤ d ∧ JJ a b way) ∨ (2 ≤ d ∧ way = [] ∧ 0 < a.under ∧ 6 ≤ a.waited + d) ∨ 7 ≤ d
theorem Near.mid {d : Nat} {G : List (List Int)} {a b : LS} {cb : List (List Int)} {way : List (Int × List Int)} (h : Near d G a b cb way) : Mid d G a b cb way := h
theorem Mid.hear1 {d : Nat} {id N : Int} {G : List (List Int)} {a b : LS} {cb : List (List Int)} {p : List Int} {way : List (Int × List Int)} (h : EInv id N G a b cb ((1, p) :: way)) (hN : N ≤ 900000000000) (m : Mid d G a b cb ((1, p) :: way)) :
    Mid d G a (hearP b p).2.2 (cb ++ (hearP b p).1) (way ++ (hearP b p).2.1.map fun x => ((0 : Int), x)) := by
  rcases m with ⟨h0, -⟩ | ⟨h1, j⟩ | ⟨-, h0, -⟩ | h1
  · cases h0
  · exact .inr (.inl ⟨h1, (h.hear1 hN).2.2 j⟩)
  · cases h0
  · exact .inr (.inr (.inr h1))
theorem Mid.hear0 {d : Nat} {id N : Int} {G : List (List Int)} {a b : LS} {cb : List (List Int)} {p : List Int} {way : List (Int × List Int)} (h : EInv id N G a b cb ((0, p) :: way)) (hN : N ≤ 900000000000) (m : Mid d G a b cb ((0, p) :: way)) :
    Mid d G (hearP a p).2.2 b cb (way ++ (hearP a p).2.1.map fun x => ((1 : Int), x)) := by
  rcases m with ⟨h0, -⟩ | ⟨h1, j⟩ | ⟨-, h0, -⟩ | h1
  · cases h0
  · exact .inr (.inl ⟨h1, (h.hear0 hN).2.2 j⟩)
  · cases h0
  · exact .inr (.inr (.inr h1))
theorem tick_b {id N : Int} {G : List (List Int)} {a b : LS} {cb : List (List Int)} {k : Nat} (h : Ends2 id N G [] a b k 0 [] cb) : tickP b = ([], { b with waited := 0 }) := by
  unfold tickP
  rw [if_pos (none_rows h).2.1]
theorem EInv.tickB {id N : Int} {G : List (List Int)} {a b : LS} {cb : List (List Int)} {way : List (Int × List Int)} (h : EInv id N G a b cb way) : EInv id (N + 40) G a (tickP b).2 cb way := by
  obtain ⟨E, -, f, c⟩ := h.e.swap.tick
  exact ⟨E.swap, h.w.right f c, h.full⟩
theorem EInv.tickA {id N : Int} {G : List (List Int)} {a b : LS} {cb : List (List Int)} (h : EInv id N G a b cb []) : EInv id (N + 40) G (tickP a).2 b cb ((tickP a).1.map fun x => ((1 : Int), x)) := by
  obtain ⟨E, P, f, c⟩ := h.e.tick
  refine ⟨E, ?_, ?_⟩
  · have := (h.w.left f c).add1 P
    rwa [List.nil_append] at this
  · unfold tickP
    split
    · exact h.full
    · split <;> exact h.full
theorem tickA_mu {id N : Int} {G : List (List Int)} {a b : LS} {cb : List (List Int)} (h : EInv id N G a b cb []) (h60 : G.length ≤ 60) : mu G (tickP a).2 ((tickP a).1.map fun x => ((1 : Int), x)) ≤ 160 := by
  have h1 := h.e.oka.f1
  have h2 := h.e.oka.u16
  unfold mu
  rw [wt_map1]
  have e : (tickP a).2.first = a.first ∧ (tickP a).1.length ≤ a.under := by
    unfold tickP
    split
    · exact ⟨rfl, by simp⟩
    · split
      · exact ⟨rfl, by simp⟩
      · exact ⟨rfl, by simp⟩
  omega
/-- the Tick behind a round in which nothing was lost -/
theorem Near.next {d : Nat} {id N : Int} {G : List (List Int)} {a b : LS} {cb : List (List Int)} (h : EInv id N G a b cb []) (hN : N ≤ 900000000000) (m : Mid d G a b cb []) :
    Near (d - 1) G (tickP a).2 (tickP b).2 cb ((tickP a).1.map fun x => ((1 : Int), x)) := by
  have hb : (tickP b).2.came = b.came := by rw [tick_b h.e]
  have dn : Done G a cb [] → Near (d - 1) G (tickP a).2 (tickP b).2 cb ((tickP a).1.map fun x => ((1 : Int), x)) := by
    rintro ⟨-, h2, h3⟩
    have h4 := h.full
    rw [h2] at h4
    have h5 : a.under = 0 := by simpa using h4
    left
    unfold tickP
    rw [if_pos h5]
    exact ⟨rfl, h2, h3⟩
  by_cases hd : Done G a cb []
  · exact dn hd
  by_cases hu : a.under = 0
  · exact dn (h.done hu)
  have hw0 := h.e.oka.w0
  have hw5 := h.e.oka.w5
  by_cases hw : a.waited + 1 < 5
  · have e : tickP a = ([], { a with waited := a.waited + 1 }) := by unfold tickP; rw [if_neg hu, if_pos hw]
    rw [e]
    rcases m with x | ⟨h1, j⟩ | ⟨h1, -, h2, h3⟩ | h1
    · exact absurd x hd
    · exact absurd (JJ.done h j) hd
    · refine .inr (.inr (.inl ⟨by omega, rfl, h2, ?_⟩))
      show 6 ≤ a.waited + 1 + ((d - 1 : Nat) : Int); omega
    · refine .inr (.inr (.inl ⟨by omega, rfl, by show 0 < a.under; omega, ?_⟩))
      show 6 ≤ a.waited + 1 + ((d - 1 : Nat) : Int); omega
  · have e : tickP a = ((List.range a.under).map fun j : Nat => packP a.id (a.first + j) a.came (a.rows[j]?.getD []), { a with waited := 0, sent := a.sent + a.under }) := by unfold tickP; rw [if_neg hu, if_neg hw]
    have hd1 : 1 ≤ d - 1 := by
      rcases m with x | ⟨h1, j⟩ | ⟨h1, -, h2, h3⟩ | h1
      · exact absurd x hd
      · exact absurd (JJ.done h j) hd
      · omega
      · omega
    refine .inr (.inl ⟨hd1, ?_⟩)
    have hpn : ∀ j : Nat, j < a.under → pn (packP a.id (a.first + j) a.came (a.rows[j]?.getD [])) = a.first + j := by
      intro j hj
      obtain ⟨-, hL⟩ := getD_row h.e.oka j
      have h1 := h.e.oka.f1; have h2 := h.e.oka.fN; have h3 := h.e.oka.u16
      exact (pn_pack h.e.oka.id (by unfold I64; omega) (h.e.oka.i64 (by omega)) hL (fun h => absurd h (by omega))).1
    rw [e]
    refine ⟨?_, ?_⟩
    · rw [hb, to1_map1]
      have e1 : ((List.range a.under).map fun j : Nat => packP a.id (a.first + j) a.came (a.rows[j]?.getD [])).map pn = (List.range a.under).map fun j : Nat => a.first + (j : Int) := by
        rw [List.map_map]
        apply List.map_congr_left
        intro j hj
        exact hpn j (List.mem_range.1 hj)
      show run _ (List.map pn ((List.range a.under).map fun j : Nat => packP a.id (a.first + j) a.came (a.rows[j]?.getD []))) = a.first + (a.under : Int) - 1
      rw [e1, run_range _ _ _ (by have := h.e.fa.lo; omega) (h.e.fa.hi)]
    · refine .inr (.inl ⟨(1, packP a.id (a.first + (0 : Nat)) a.came (a.rows[0]?.getD [])), ?_, rfl, ?_⟩)
      · refine List.mem_map.2 ⟨_, List.mem_map.2 ⟨0, List.mem_range.2 (by omega), rfl⟩, rfl⟩
      · have := hpn 0 (by omega)
        have h1 := h.e.oka.f1
        show 0 < pn _
        rw [this]; omega
theorem Near.mono {d d' : Nat} {G : List (List Int)} {a b : LS} {cb : List (List Int)} {way : List (Int × List Int)} (h : Near d G a b cb way) (hd : d ≤ d') : Near d' G a b cb way := by
  rcases h with x | ⟨h1, j⟩ | ⟨h1, h2, h3, h4⟩ | h1
  · exact .inl x
  · exact .inr (.inl ⟨by omega, j⟩)
  · exact .inr (.inr (.inl ⟨by omega, h2, h3, by omega⟩))
  · exact .inr (.inr (.inr (by omega)))
end Go.Oct
end

section
namespace Go.Oct
open Go.RowKit

theorem pkt_small {id N : Int} {Ga Gb : List (List Int)} {a b : LS} {ka kb : Nat} {ca cb : List (List Int)} (h : Ends2 id N Ga Gb a b ka kb ca cb) (hN : N ≤ 1000000000000) {p : List Int} (hp : Pkt id Ga a p) : Bytes p ∧ p.length ≤ 5000 := by
  obtain ⟨n, ack, row, rfl, hn, hn2, hr0, hr, ha, ha2⟩ := hp
  have hu := h.fa.under_k
  have hkl := h.fa.kl
  have hrow : Bytes row ∧ row.length ≤ 4096 := by
    rcases Int.lt_or_le 0 n with h0 | h0
    · refine h.sa row ?_
      have e := hr h0
      refine List.mem_of_getElem? (i := (n - 1).toNat) ?_
      rw [List.getElem?_take, if_pos (by omega), e]
    · rw [hr0 h0]; exact ⟨fun x hx => by simp at hx, by simp⟩
  have hid : I64 id := by rw [← h.ida]; exact h.oka.id
  have hnI : I64 n := by have := h.oka.fN; have := h.oka.u16; unfold I64; omega
  have hac : I64 ack := by have := h.oka.cN; unfold I64; omega
  exact ⟨packP_bytes hid hnI hac hrow.1 (by omega), by have := packP_length (id := id) (n := n) (came := ack) (row := row) (by omega); omega⟩
theorem len_wt : ∀ way : List (Int × List Int), way.length ≤ wt way
  | [] => Nat.le_refl _
  | p :: way => by have := len_wt way; rw [wt_cons, List.length_cons]; split <;> omega
theorem wt_len : ∀ way : List (Int × List Int), wt way ≤ 2 * way.length
  | [] => Nat.le_refl _
  | p :: way => by have := wt_len way; rw [wt_cons, List.length_cons]; split <;> omega
theorem mu_len {G : List (List Int)} {a : LS} {way : List (Int × List Int)} : way.length ≤ mu G a way := by
  have := len_wt way
  unfold mu
  omega
structure SInv (k : Nat) (G : List (List Int)) (sa : LS) (ps : List (Int × List Int)) : Prop where
  e : Ends2 3 (1 + 40 * (k : Int)) G [] sa (LS.new 3) k 0 [] []
  w : Way2 3 G [] sa (LS.new 3) ps
  full : sa.under = min sa.rows.length 16
  f1 : sa.first = 1
  len : ps.length = sa.under
theorem SInv.start {G : List (List Int)} : SInv 0 G (LS.new 3) [] :=
  ⟨ends2_new (by unfold I64; omega), fun p hp => by simp at hp, rfl, rfl, rfl⟩
theorem SInv.send {k : Nat} {G : List (List Int)} {sa : LS} {ps : List (Int × List Int)} (h : SInv k G sa ps) {p : List Int} (hp : G[k]? = some p) (hB : Bytes p) (hl : p.length ≤ 4096) (hk : k < 1000) :
    (sendP sa p).2.1 = 0 ∧ SInv (k + 1) G (sendP sa p).2.2 (ps ++ (sendP sa p).1.map fun r => ((1 : Int), r)) := by
  have hkl : k < G.length := (List.getElem?_eq_some_iff.1 hp).1
  have hrl : sa.rows.length = k := by
    rw [h.e.fa.rows, h.f1, List.length_drop, List.length_take]
    simp only [Int.sub_self, Int.toNat_zero]
    omega
  have hE := h.e.send hp hB
  have hs : sendP sa p = ((fillP { sa with rows := sa.rows ++ [p] }).1, 0, (fillP { sa with rows := sa.rows ++ [p] }).2) := by
    unfold sendP
    rw [if_neg (by omega), if_neg (by omega)]
  rw [hs] at hE ⊢
  obtain ⟨E, P, f, c⟩ := hE
  have E' : Ends2 3 (1 + 40 * ((k + 1 : Nat) : Int)) G [] (fillP { sa with rows := sa.rows ++ [p] }).2 (LS.new 3) (k + 1) 0 [] [] := by
    have e1 : (1 : Int) + 40 * ((k + 1 : Nat) : Int) = 1 + 40 * (k : Int) + 40 := by omega
    rw [e1]
    exact E
  refine ⟨rfl, E', (h.w.left f c).add1 P, fill_full _ (by show sa.under ≤ (sa.rows ++ [p]).length; have := h.e.fa.ul; simp; omega) h.e.oka.u16, h.f1, ?_⟩
  rw [List.length_append, List.length_map, h.len]
  show sa.under + (outP _ _).length = sa.under + LS.room _
  rw [outP_length]
theorem SInv.done {G : List (List Int)} {sa : LS} {ps : List (Int × List Int)} (h : SInv G.length G sa ps) (h60 : G.length ≤ 60) : EInv 3 3000 G sa (LS.new 3) [] ps ∧ mu G sa ps ≤ 160 := by
  have hN : (1 : Int) + 40 * (G.length : Int) ≤ 3000 := by omega
  refine ⟨⟨⟨h.e.oka.mono hN, h.e.okb.mono hN, h.e.ida, h.e.idb, h.e.fa, h.e.fb, h.e.sa, h.e.sb⟩, h.w, h.full⟩, ?_⟩
  have h1 := wt_len ps
  have h2 := h.len
  have h3 := h.e.oka.u16
  have h4 := h.f1
  unfold mu
  omega
theorem EInv.mono {id N M : Int} {G : List (List Int)} {a b : LS} {cb : List (List Int)} {way : List (Int × List Int)} (h : EInv id N G a b cb way) (hN : N ≤ M) : EInv id M G a b cb way :=
  ⟨⟨h.e.oka.mono hN, h.e.okb.mono hN, h.e.ida, h.e.idb, h.e.fa, h.e.fb, h.e.sa, h.e.sb⟩, h.w, h.full⟩
theorem Near.done {G : List (List Int)} {a b : LS} {cb : List (List Int)} {way : List (Int × List Int)} (h : Near 0 G a b cb way) : a.rows = [] ∧ cb = G := by
  rcases h with h | ⟨h, _⟩ | ⟨h, _⟩ | h
  · exact h.2
  · omega
  · omega
  · omega
theorem EInv.head {id N : Int} {G : List (List Int)} {a b : LS} {cb : List (List Int)} {tg : Int} {p : List Int} {way : List (Int × List Int)} (h : EInv id N G a b cb ((tg, p) :: way)) (hN : N ≤ 900000000000) : (tg = 1 ∨ tg = 0) ∧ Bytes p ∧ p.length ≤ 5000 := by
  rcases h.w (tg, p) (by simp) with ⟨e, x⟩ | ⟨e, x⟩
  · exact ⟨.inl e, pkt_small h.e (by omega) x⟩
  · exact ⟨.inr e, pkt_small h.e.swap (by omega) x⟩
theorem came_len {id N : Int} {G : List (List Int)} {a b : LS} {cb : List (List Int)} {way : List (Int × List Int)} (h : EInv id N G a b cb way) : cb.length ≤ G.length := by
  rw [h.e.fa.came, List.length_take]; omega
end Go.Oct
end

section
namespace Go.Proofs.Ytdgalljalcediaa
open Go.RowKit Go.Sep Go.Oct
set_option linter.unusedSimpArgs false

theorem Try.sizeK : (Try.prog.info? 58).map (·.size) = some 2 := by kernel_rfl
theorem own_nextN {W0 w : World} {L : List Asn} {e : TypeId} {size b off n cap : Nat} {xs ys : List Value} (hx : xs.length = size) (S : Sat W0 w (slc e size (some ⟨b, off, none⟩) (n + 1) cap (xs ++ ys) :: L)) : Sat W0 w (slc e size (some ⟨b, off + size, none⟩) n (cap - 1) ys :: L) := by
  obtain ⟨b', pre, post, h0, h1, h2, h3, h4, S1⟩ := Sat.own_some.1 S
  cases h0
  rw [List.length_append, hx, Nat.add_mul, Nat.one_mul] at h1
  refine Sat.own_some.2 ⟨b, pre ++ xs, post, by rw [List.length_append, hx], by omega, by omega, by omega, ?_, by simpa only [List.append_assoc] using S1⟩
  rw [show cap - 1 - n = cap - (n + 1) by omega]
  exact h4
theorem own_lastN {W0 w : World} {L : List Asn} {e : TypeId} {size b off n : Nat} {xs ys : List Value} (hs : 0 < size) (hx : xs.length = size) (S : Sat W0 w (slc e size (some ⟨b, off, none⟩) (n + 1) 1 (xs ++ ys) :: L)) : n = 0 ∧ ys = [] ∧ Sat W0 w (slc e size (some ⟨b, off, none⟩) 0 0 [] :: L) := by
  obtain ⟨b', pre, post, h0, h1, h2, h3, h4, S1⟩ := Sat.own_some.1 S
  cases h0
  obtain rfl : n = 0 := by omega
  rw [List.length_append, hx] at h1
  obtain rfl : ys = [] := List.eq_nil_of_length_eq_zero (by omega)
  refine ⟨rfl, rfl, Sat.own_some.2 ⟨b, pre, xs ++ post, rfl, by simp, by omega, by unfold maxLen; omega, by simp, ?_⟩⟩
  simpa using S1
theorem rowsB_pop {W0 w : World} {L : List Asn} {h : Hd} {hs : List Hd} {r : List Int} {rs : List (List Int)} (S : Sat W0 w (rowsB (h :: hs) (r :: rs) :: L)) : Sat W0 w (sbs h.1 r.length h.2.2 r :: rowsB hs rs :: L) ∧ h.2.1 = r.length := by
  have S1 := Sat.star.1 S
  obtain ⟨h1, S2⟩ := Sat.pure.1 S1.swap
  exact ⟨S2.swap, h1⟩
theorem rowsB_cat {W0 w : World} : ∀ {L : List Asn} {hs ks : List Hd} {rs qs : List (List Int)}, Sat W0 w (rowsB hs rs :: rowsB ks qs :: L) → Sat W0 w (rowsB (hs ++ ks) (rs ++ qs) :: L)
  | L, [], ks, [], qs, S => S.tail
  | L, h :: hs, ks, r :: rs, qs, S => by
    have S1 := Sat.star.1 S
    obtain ⟨h1, S2⟩ := Sat.pure.1 S1.swap
    have S3 := rowsB_cat (L := sbs h.1 r.length h.2.2 r :: L) (S2.sel [0, 1])
    exact Sat.star.2 (Sat.swap (Sat.pure.2 ⟨h1, S3⟩))
  | L, [], _, _ :: _, _, S => absurd (Sat.pure.1 S).1 id
  | L, _ :: _, _, [], _, S => absurd (Sat.pure.1 S).1 id
theorem brs_cat {W0 w : World} {L : List Asn} {ao : Option Addr} {n m cap : Nat} {hs ks : List Hd} {rs qs : List (List Int)} (h1 : rs.length = n) (h2 : qs.length = m)
    (S : Sat W0 w (slc 29 1 ao (n + m) cap (hs.map hv ++ ks.map hv) :: rowsB hs rs :: rowsB ks qs :: L)) : Sat W0 w (brs ao (n + m) cap (rs ++ qs) :: L) := by
  have S1 := rowsB_cat (S.sel [1, 1])
  rw [← List.map_append] at S1
  exact brs_in (by rw [List.length_append, h1, h2]) S1.swap
theorem drop_tail {W0 w : World} {L : List Asn} {A : Asn} (n : Nat) (As : List Asn) (_ : As.length = n) (S : Sat W0 w (A :: (As ++ L))) : Sat W0 w (As ++ L) := S.tail
end Go.Proofs.Ytdgalljalcediaa
end

section
namespace Go.Proofs.Ytdgalljalcediaa
open Go.RowKit Go.Sep Go.Oct

theorem nums_flat {w : World} : ∀ {els : List (List Value)} {xs : List Int}, Each ((Kd.int .i64).R w) els xs → els.flatten = nv xs ∧ I64s xs
  | [], [], _ => ⟨rfl, fun x hx => by simp at hx⟩
  | [], x :: r, h => by have := h.1; simp at this
  | c :: s, [], h => by have := h.1; simp at this
  | c :: s, x :: r, h => by
    obtain ⟨rfl, hw⟩ := h.2 0 c x rfl rfl
    obtain ⟨h1, h2⟩ := nums_flat (els := s) (xs := r) ⟨by have := h.1; simpa using this, fun i c x hc hx => h.2 (i + 1) c x hc hx⟩
    refine ⟨by rw [List.flatten_cons, h1]; rfl, ?_⟩
    intro y hy
    rcases List.mem_cons.1 hy with rfl | hy
    · exact i64_of_wf hw
    · exact h2 y hy
theorem nums_rd {w : World} {s : Sl Int} {c : List Value} (h : (Kd.sl (Kd.int .i64)).R w c s) : Rd w s.ao (nv s.xs) ∧ s.xs.length = s.len ∧ I64s s.xs ∧ s.len ≤ s.cap ∧ s.cap ≤ maxLen ∧ s.len ≤ 140737488351232 := by
  obtain ⟨_, h2, h3, h4, h5, h6, _, h8⟩ := h
  obtain ⟨g1, g2⟩ := nums_flat h4
  exact ⟨by rw [← g1]; exact h3, h2, g2, h5, h6, h8⟩
end Go.Proofs.Ytdgalljalcediaa
end

section
namespace Go.Proofs.Ytdgalljalcediaa
open Go.RowKit Go.Sep Go.Oct

def gr (xs : List (Sl Int)) : List (List Int) := xs.map (·.xs)
theorem gr_at {xs : List (Sl Int)} {k : Nat} {x : Sl Int} (h : xs[k]? = some x) : (gr xs)[k]? = some x.xs := by unfold gr; rw [List.getElem?_map, h]; rfl
theorem BRows.rows {w : World} {s : Sl (Sl Int)} (h : BRows w s) {w' : World} (hb : Below w.heap.size w w') : RdRows w' s.ao (gr s.xs) := by
  intro i r hr
  unfold gr at hr
  rw [List.getElem?_map] at hr
  obtain ⟨x, hx, rfl⟩ : ∃ x, s.xs[i]? = some x ∧ x.xs = r := by
    cases hx : s.xs[i]? with
    | none => rw [hx] at hr; cases hr
    | some x => rw [hx] at hr; exact ⟨x, rfl, by simpa using hr⟩
  obtain ⟨b, off, ha, hc, hr⟩ := h.row i x hx
  refine ⟨b, off, x.ao, x.cap, ha, ?_, hr.rd.below hb⟩
  rw [hr.len, ← hc]
  exact World.cell?_of_block (hb.block b (World.block_lt_of_cell? w _ hc))
theorem BRows.cell {w : World} {s : Sl (Sl Int)} (h : BRows w s) {k : Nat} {x : Sl Int} (hx : s.xs[k]? = some x) : ∃ b off, s.ao = some ⟨b, off, none⟩ ∧ BRow w x ∧ ∀ w', Below w.heap.size w w' → w'.cell? ⟨b, off + k, none⟩ = some (.slice x.ao x.len x.cap) := by
  obtain ⟨b, off, ha, hc, hr⟩ := h.row k x hx
  refine ⟨b, off, ha, hr, fun w' hb => ?_⟩
  rw [← hc]
  exact World.cell?_of_block (hb.block b (World.block_lt_of_cell? w _ hc))
theorem out0_any {W0 w : World} {L : List Asn} {x p0 p1 q0 q1 : Nat} {ps : List (Int × List Int)} {lo : Option Addr} {n c : Nat} {rs : List (List Int)} (S : Sat W0 w (BW2 x p0 p1 q0 q1 ps :: brs lo n c rs :: L)) (hsm : ∀ r ∈ rs, r.length ≤ 1000000) (hn9 : n ≤ 100000) (hps : ps.length ≤ 100000000) :
    Calls Try.prog 23 #[.pointer (some ⟨x, 0, none⟩), .int .i64 0, .slice lo n c] w fun e' w' => e' = .returned (.tuple #[]) ∧ Sat W0 w' (BW2 x p0 p1 q0 q1 (ps ++ rs.map fun r => ((1 : Int), r)) :: brs lo n c rs :: L) := by
  have := out_any16 (e := 0) (by omega) S hsm hn9 hps
  simpa using this
theorem out1_any {W0 w : World} {L : List Asn} {x p0 p1 q0 q1 : Nat} {ps : List (Int × List Int)} {lo : Option Addr} {n c : Nat} {rs : List (List Int)} (S : Sat W0 w (BW2 x p0 p1 q0 q1 ps :: brs lo n c rs :: L)) (hsm : ∀ r ∈ rs, r.length ≤ 1000000) (hn9 : n ≤ 100000) (hps : ps.length ≤ 100000000) :
    Calls Try.prog 23 #[.pointer (some ⟨x, 0, none⟩), .int .i64 1, .slice lo n c] w fun e' w' => e' = .returned (.tuple #[]) ∧ Sat W0 w' (BW2 x p0 p1 q0 q1 (ps ++ rs.map fun r => ((0 : Int), r)) :: brs lo n c rs :: L) := by
  have := out_any16 (e := 1) (by omega) S hsm hn9 hps
  simpa using this
end Go.Proofs.Ytdgalljalcediaa
end

section
namespace Go.Proofs.Ytdgalljalcediaa
open Go.RowKit Go.Sep Go.Oct
set_option linter.unusedSimpArgs false

set_option maxRecDepth 100000 in
set_option maxHeartbeats 12800000 in
theorem LinkEnds_walk {w : World} {l : Sl (Sl Int)} (hl : BRows w l) {za : Option Addr} {zn zc : Nat} {zs : List Int} (hz : Rd w za (nv zs)) (hzl : zs.length = zn) (hzm : zn ≤ 140737488351232) :
    Calls Try.prog 8 #[.slice l.ao l.len l.cap, .slice za zn zc] w fun e w' => e = .returned (.bool true) ∧ Below w.heap.size w w' := by
  obtain ⟨ao, ln, cap, els, xs⟩ := l
  have S0 := Sat.start w
  have hlen : xs.length = ln := hl.len
  have hlm : ln ≤ 140737488351232 := hl.reach
  obtain ⟨i0, hi, hz0, hz1, hz2⟩ := info_parts Try.infoR
  have HL := Lib.hid hl
  have HLEN := Lib.hid hlen
  have HZ := Lib.hid hz
  have HZL := Lib.hid hzl
  clear hl hlen hz hzl
  dsimp only
  go_enter Try.func8, Try.ntmps8
  go_wp2_with fail
  go_loopw [5, 6] (fun n i wr => ∃ k t : Nat, k ≤ ln ∧ i = .int .i64 k ∧ n = .int .i64 t ∧ Hid (t = totL (xs.take k)) ∧ wr = w) (fun _ i _ => ln - (intOf i).toNat)
  case atStart => exact ⟨0, 0, by omega, rfl, rfl, rfl, rfl⟩
  case round =>
    obtain ⟨k, t, hk, rfl, rfl, HT, hwr⟩ := hrel
    have hwr' := hwr.symm
    clear hwr
    subst hwr'
    have t0 : (0 : Int) ≤ (t : Int) := by omega
    by_cases hlt : k < ln ∧ t ≤ 8000
    · have hd : decide ((k : Int) < (ln : Int)) = true := decide_eq_true (by omega)
      have hd2 : decide ((t : Int) ≤ 8000) = true := decide_eq_true (by omega)
      have hkl : k < ln := hlt.1
      have ht8 : t ≤ 8000 := hlt.2
      obtain ⟨x, hx⟩ : ∃ x, xs[k]? = some x := ⟨xs[k]'(by rw [HLEN.out]; exact hkl), List.getElem?_eq_getElem _⟩
      obtain ⟨b, off, hao, hcell, hrow⟩ := HL.out.row k x hx
      have hrm := hrow.reach
      dsimp only at hao
      subst hao
      have hw1 : IntKind.i64.wrap ((t : Int) + 10) = (t : Int) + 10 := by rw [IntKind.wrap_i64]; omega
      have hw2 : IntKind.i64.wrap ((t : Int) + 10 + (x.len : Int)) = (t : Int) + 10 + (x.len : Int) := by rw [IntKind.wrap_i64]; omega
      have hw3 : IntKind.i64.wrap ((k : Int) + 1) = (k : Int) + 1 := by rw [IntKind.wrap_i64]; omega
      have k0 : (0 : Int) ≤ (k : Int) := by omega
      have k1 : (k : Int) < (ln : Int) := by omega
      have HX := Lib.hid hx
      clear hx hrow
      go_wp2_with fail
      refine ⟨⟨k + 1, t + 10 + x.len, by omega, by go_num, by go_num, ?_, by trivial⟩, by simp [intOf]; omega⟩
      show _ = _
      rw [totL_take _ _ _ HX.out, HT.out]
    · by_cases hbig : 4096 < t ∨ 60 < ln
      · have HK := Lib.hid (known_any S0)
        by_cases hkl : k < ln
        · have hd : decide ((k : Int) < (ln : Int)) = true := decide_eq_true (by omega)
          have ht9 : ¬ t ≤ 8000 := fun x => hlt ⟨hkl, x⟩
          have hd2 : decide ((t : Int) ≤ 8000) = false := decide_eq_false (by omega)
          have hd3 : decide ((4096 : Int) < (t : Int)) = true := decide_eq_true (by omega)
          go_wp2_with (first | (go_at_call 12; refine HK.out.mono ?_; rintro e w8 ⟨rfl, S8⟩))
          go_ret
          exact ⟨rfl, S8.below⟩
        · have hd : decide ((k : Int) < (ln : Int)) = false := decide_eq_false (by omega)
          by_cases h4 : 4096 < t
          · have hd3 : decide ((4096 : Int) < (t : Int)) = true := decide_eq_true (by omega)
            go_wp2_with (first | (go_at_call 12; refine HK.out.mono ?_; rintro e w8 ⟨rfl, S8⟩))
            go_ret
            exact ⟨rfl, S8.below⟩
          · have hd3 : decide ((4096 : Int) < (t : Int)) = false := decide_eq_false (by omega)
            have hd4 : decide ((60 : Int) < (ln : Int)) = true := decide_eq_true (by omega)
            go_wp2_with (first | (go_at_call 12; refine HK.out.mono ?_; rintro e w8 ⟨rfl, S8⟩))
            go_ret
            exact ⟨rfl, S8.below⟩
      · have hkl : ¬ k < ln := fun x => hlt ⟨x, by omega⟩
        have hd : decide ((k : Int) < (ln : Int)) = false := decide_eq_false (by omega)
        have hd3 : decide ((4096 : Int) < (t : Int)) = false := decide_eq_false (by omega)
        have hd4 : decide ((60 : Int) < (ln : Int)) = false := decide_eq_false (by omega)
        have h60 : ln ≤ 60 := by omega
        have hall : totL xs ≤ 4096 := by
          have := HT.out
          rw [List.take_of_length_le (by rw [HLEN.out]; omega)] at this
          omega
        have HALL := Lib.hid hall
        have H60 := Lib.hid h60
        have HGL : Hid ((gr xs).length = ln) := by show (xs.map _).length = ln; rw [List.length_map, HLEN.out]
        clear hlt hbig hall
        go_wp2_with (first
          | (go_at_call 21; refine (start_any S0 3).mono ?_; rintro e w1 ⟨x, p0, p1, q0, q1, rfl, S1⟩))
        clear hd hd3 hd4 hkl hk HT t0
        have S1' : Sat w w1 (BW2 x p0 p1 q0 q1 [] :: PL p0 (LS.new 3) :: PL p1 (LS.new 3) :: DL q0 (LS.new 3) :: DL q1 (LS.new 3) :: []) := S1
        clear S1
        go_loopw [10] (fun i wr => ∃ (k : Nat) (sa : LS) (ps : List (Int × List Int)), k ≤ ln ∧ i = .int .i64 k ∧ Hid (SInv k (gr xs) sa ps) ∧ Sat w wr (BW2 x p0 p1 q0 q1 ps :: PL p0 sa :: PL p1 (LS.new 3) :: DL q0 (LS.new 3) :: DL q1 (LS.new 3) :: [])) (fun i _ => ln - (intOf i).toNat)
        case atStart => exact ⟨0, LS.new 3, [], by omega, rfl, SInv.start, S1'⟩
        case round =>
          clear S1'
          obtain ⟨k, sa, ps, hk, rfl, HS, S3⟩ := hrel
          have k0 : (0 : Int) ≤ (k : Int) := by omega
          by_cases hlt : k < ln
          · have hd : decide ((k : Int) < (ln : Int)) = true := decide_eq_true (by omega)
            have k1 : (k : Int) < (ln : Int) := by omega
            have hw3 : IntKind.i64.wrap ((k : Int) + 1) = (k : Int) + 1 := by rw [IntKind.wrap_i64]; omega
            obtain ⟨y, hy⟩ : ∃ y, xs[k]? = some y := ⟨xs[k]'(by rw [HLEN.out]; exact hlt), List.getElem?_eq_getElem _⟩
            obtain ⟨b, off, hao, hrow, hcell⟩ := HL.out.cell hy
            have hy9 := totL_mem hy
            have hall := HALL.out
            dsimp only at hao
            subst hao
            have hyl : y.xs.length ≤ 4096 := by rw [hrow.len]; omega
            obtain ⟨hs0, hs1⟩ := HS.out.send (gr_at hy) hrow.bytes hyl (by omega)
            have hok : sa.Ok (1 + 40 * (k : Int)) := HS.out.e.oka
            have hps16 : ps.length ≤ 16 := by have := HS.out.len; have := hok.u16; omega
            have hsm := hok.sendOut (by omega) hrow.bytes (p := y.xs)
            have hol := send_outs_len (s := sa) (p := y.xs)
            have HSEND := Lib.hid (fun (w' : World) (M : List Asn) (h : Sat w w' (PL p0 sa :: M)) => send_any (m := y.len) (c := y.cap) h hok (by omega) (hrow.rd.below h.below) hrow.len hrow.nil hrow.bytes (by omega))
            generalize sendP sa y.xs = R at HSEND hs0 hs1 hsm hol
            obtain ⟨ou, er, sa'⟩ := R
            dsimp only at hs0 hs1 hsm hol
            subst hs0
            have HS1 := Lib.hid hs1
            have HSM : Hid (∀ r ∈ ou, r.length ≤ 1000000) := fun r hr => by have := (hsm r hr).2; omega
            have HCE := Lib.hid hcell
            clear hy hy9 hall hs1 hsm hok hrow hcell
            obtain ⟨wa, wc, S4⟩ := BW2_open.1 S3.drew
            go_wp2_with fail
            clear S3
            refine wp_region_drawn (N := 15) (LN := #[false, false, false, false, false, false, false, false, false, false, false, false, false, false, false]) (by kernel_rfl) (by kernel_rfl) (by kernel_rfl) ?_
            generalize wr.drew = w4 at S4 ⊢
            have hc0 := (S4.cell 0 rfl 0 : _)
            have hce := HCE.out _ S4.below
            simp only [List.getElem?_cons_zero, List.getElem?_cons_succ] at hc0
            refine wpAny_seg 0 9 6 15 #[true, true, true, true, true, true, true, true, true, false, false, false, false, false, false] (by kernel_rfl) (by kernel_rfl) ?_
            simp only [List.take_succ_cons, List.take_zero, List.drop_succ_cons, List.drop_zero]
            refine wpStill_step (fun K hK => ?_); go_simp; refine hK _ ?_; clear hK K
            try simp only [Act.put, List.getElem_toArray, List.getElem_cons_zero, List.getElem_cons_succ, List.setIfInBounds_toArray, List.set_cons_zero, List.set_cons_succ]
            refine wpStill_step (fun K hK => ?_); go_simp; refine hK _ ?_; clear hK K
            try simp only [Act.put, List.getElem_toArray, List.getElem_cons_zero, List.getElem_cons_succ, List.setIfInBounds_toArray, List.set_cons_zero, List.set_cons_succ]
            refine wpStill_step (fun K hK => ?_); go_simp; refine hK _ ?_; clear hK K
            try simp only [Act.put, List.getElem_toArray, List.getElem_cons_zero, List.getElem_cons_succ, List.setIfInBounds_toArray, List.set_cons_zero, List.set_cons_succ]
            refine wpStill_step (fun K hK => ?_); go_simp; refine hK _ ?_; clear hK K
            try simp only [Act.put, List.getElem_toArray, List.getElem_cons_zero, List.getElem_cons_succ, List.setIfInBounds_toArray, List.set_cons_zero, List.set_cons_succ]
            refine wpStill_step (fun K hK => ?_); go_simp; refine hK _ ?_; clear hK K
            try simp only [Act.put, List.getElem_toArray, List.getElem_cons_zero, List.getElem_cons_succ, List.setIfInBounds_toArray, List.set_cons_zero, List.set_cons_succ]
            refine wpStill_step (fun K hK => ?_); go_simp; refine hK _ ?_; clear hK K
            try simp only [Act.put, List.getElem_toArray, List.getElem_cons_zero, List.getElem_cons_succ, List.setIfInBounds_toArray, List.set_cons_zero, List.set_cons_succ]
            refine wpStill_step (fun K hK => ?_); go_simp; refine hK _ ?_; clear hK K
            try simp only [Act.put, List.getElem_toArray, List.getElem_cons_zero, List.getElem_cons_succ, List.setIfInBounds_toArray, List.set_cons_zero, List.set_cons_succ]
            refine wpStill_step (fun K hK => ?_); go_simp; refine hK _ ?_; clear hK K
            try simp only [Act.put, List.getElem_toArray, List.getElem_cons_zero, List.getElem_cons_succ, List.setIfInBounds_toArray, List.set_cons_zero, List.set_cons_succ]
            refine wpStill_step (fun K hK => ?_); go_simp; refine hK _ ?_; clear hK K
            try simp only [Act.put, List.getElem_toArray, List.getElem_cons_zero, List.getElem_cons_succ, List.setIfInBounds_toArray, List.set_cons_zero, List.set_cons_succ]
            refine wpStill_nil ?_
            refine wpAny_one (i := 9) (LN := #[true, true, true, true, true, true, true, true, true, true, false, false, false, false, false]) (by kernel_rfl) rfl (by kernel_rfl) ?_
            intro K hK
            go_simp
            go_at_call 14
            refine (HSEND.out _ _ (S4.sel [2])).mono ?_
            unfold Sent
            rintro e w5 ⟨oa, oc, rfl, S5⟩
            dsimp only at S5 ⊢
            go_wp2_with fail
            refine hK.out _ _ ?_
            clear hK K
            try simp only [Act.put, List.getElem_toArray, List.getElem_cons_zero, List.getElem_cons_succ, List.setIfInBounds_toArray, List.set_cons_zero, List.set_cons_succ]
            refine wpAny_loc (i := 10) (v := ?_) (LN := #[true, true, true, true, true, true, true, true, true, true, true, false, false, false, false]) rfl (by kernel_rfl) (by kernel_rfl) (by kernel_rfl) (fun _ _ _ h => h) (by kernel_rfl) (by rfl) ?_ ?_
            rotate_left
            · intro w; first | (go_simp; done) | (go_simp; with_reducible rfl)
            try simp only [Act.put, List.getElem_toArray, List.getElem_cons_zero, List.getElem_cons_succ, List.setIfInBounds_toArray, List.set_cons_zero, List.set_cons_succ]
            refine wpAny_loc (i := 11) (v := ?_) (LN := #[true, true, true, true, true, true, true, true, true, true, true, true, false, false, false]) rfl (by kernel_rfl) (by kernel_rfl) (by kernel_rfl) (fun _ _ _ h => h) (by kernel_rfl) (by rfl) ?_ ?_
            rotate_left
            · intro w; first | (go_simp; done) | (go_simp; with_reducible rfl)
            try simp only [Act.put, List.getElem_toArray, List.getElem_cons_zero, List.getElem_cons_succ, List.setIfInBounds_toArray, List.set_cons_zero, List.set_cons_succ]
            refine wpAny_loc (i := 12) (v := ?_) (LN := #[true, true, true, true, true, true, true, true, true, true, true, true, true, false, false]) rfl (by kernel_rfl) (by kernel_rfl) (by kernel_rfl) (fun _ _ _ h => h) (by kernel_rfl) (by rfl) ?_ ?_
            rotate_left
            · intro w; first | (go_simp; done) | (go_simp; with_reducible rfl)
            try simp only [Act.put, List.getElem_toArray, List.getElem_cons_zero, List.getElem_cons_succ, List.setIfInBounds_toArray, List.set_cons_zero, List.set_cons_succ]
            refine wpAny_loc (i := 13) (v := ?_) (LN := #[true, true, true, true, true, true, true, true, true, true, true, true, true, true, false]) rfl (by kernel_rfl) (by kernel_rfl) (by kernel_rfl) (fun _ _ _ h => h) (by kernel_rfl) (by rfl) ?_ ?_
            rotate_left
            · intro w; first | (go_simp; done) | (go_simp; with_reducible rfl)
            try simp only [Act.put, List.getElem_toArray, List.getElem_cons_zero, List.getElem_cons_succ, List.setIfInBounds_toArray, List.set_cons_zero, List.set_cons_succ]
            refine wpAny_loc (i := 14) (v := ?_) (LN := #[true, true, true, true, true, true, true, true, true, true, true, true, true, true, true]) rfl (by kernel_rfl) (by kernel_rfl) (by kernel_rfl) (fun _ _ _ h => h) (by kernel_rfl) (by rfl) ?_ ?_
            rotate_left
            · intro w; first | (go_simp; done) | (go_simp; with_reducible rfl)
            try simp only [Act.put, List.getElem_toArray, List.getElem_cons_zero, List.getElem_cons_succ, List.setIfInBounds_toArray, List.set_cons_zero, List.set_cons_succ]
            refine ⟨by kernel_rfl, ?_⟩
            try simp only [Act.put, List.getElem_toArray, List.getElem_cons_zero, List.getElem_cons_succ, List.setIfInBounds_toArray, List.set_cons_zero, List.set_cons_succ]
            clear hc0 hce S4
            have S6 := (BW2_open.2 ⟨wa, wc, S5.sel [2, 2]⟩).sel [0, 0]
            go_wp2_with (first
              | (go_at_call 23; refine (out0_any S6 HSM.out (by omega) (by omega)).mono ?_; rintro e w7 ⟨rfl, S7⟩))
            exact ⟨⟨k + 1, sa', _, by omega, by go_num, HS1.out, (S7.sel [1]).tail⟩, by simp [intOf]; omega⟩
          · have hd : decide ((k : Int) < (ln : Int)) = false := decide_eq_false (by omega)
            obtain rfl : k = ln := by omega
            have hsd : SInv (gr xs).length (gr xs) sa ps := by rw [HGL.out]; exact HS.out
            obtain ⟨hE, hmu⟩ := hsd.done (by rw [HGL.out]; omega)
            have HE := Lib.hid hE
            have HMU := Lib.hid hmu
            clear hsd hE hmu HS hlt hd hk k0
            obtain ⟨L6, hL6⟩ : ∃ L6 : Nat, 6 * zn = L6 := ⟨_, rfl⟩
            obtain ⟨T2, hT2⟩ : ∃ T2 : Nat, 200 + L6 = T2 := ⟨_, rfl⟩
            have hw6 : IntKind.i64.wrap (6 * (zn : Int)) = (L6 : Int) := by rw [IntKind.wrap_i64]; omega
            have hw200 : IntKind.i64.wrap (200 + (L6 : Int)) = (T2 : Int) := by rw [IntKind.wrap_i64]; omega
            have HT2 : Hid (T2 = 200 + 6 * zn) := by show _ = _; omega
            clear hL6 hT2
            go_wp2_with fail
            have S4 := (brs_none S3)
            clear S3
            go_loopw [9, 13] (fun cv i wr => ∃ (t : Nat) (sa sb : LS) (ps : List (Int × List Int)) (cb : List (List Int)) (ca : Option Addr) (cc : Nat), t ≤ 600 ∧ t ≤ T2 ∧ i = .int .i64 t ∧ cv = .slice ca cb.length cc ∧ Hid (EInv 3 (3000 + 8000 * (t : Int)) (gr xs) sa sb cb ps ∧ mu (gr xs) sa ps ≤ 160 ∧ Near (zn + 7 - t) (gr xs) sa sb cb ps) ∧ Sat w wr (BW2 x p0 p1 q0 q1 ps :: PL p0 sa :: PL p1 sb :: brs ca cb.length cc cb :: DL q0 (LS.new 3) :: DL q1 (LS.new 3) :: [])) (fun _ i _ => 600 - (intOf i).toNat)
            case atStart => exact ⟨0, sa, LS.new 3, ps, [], none, 0, by omega, by omega, rfl, rfl, ⟨HE.out.mono (by omega), HMU.out, .inr (.inr (.inr (by omega)))⟩, S4.sel [1, 1, 1, 0, 0, 0]⟩
            case round =>
              clear S4 HE HMU
              obtain ⟨t, sa, sb, ps, cb, ca, cc, ht6, htT, rfl, rfl, HI0, S4⟩ := hrel
              have t0 : (0 : Int) ≤ (t : Int) := by omega
              have hw3 : IntKind.i64.wrap ((t : Int) + 1) = (t : Int) + 1 := by rw [IntKind.wrap_i64]; omega
              by_cases htt : t < T2 ∧ t < 600
              · have hd1 : decide ((t : Int) < (T2 : Int)) = true := decide_eq_true (by omega)
                have hd2 : decide ((t : Int) < 600) = true := decide_eq_true (by omega)
                have htl : t < T2 := htt.1
                have htl6 : t < 600 := htt.2
                go_wp2_with fail
                clear hd1 hd2 htt
                go_loopw [9, 14] (fun cv i wr => ∃ (k : Nat) (sa sb : LS) (ps : List (Int × List Int)) (cb : List (List Int)) (ca : Option Addr) (cc : Nat), i = .int .i64 k ∧ cv = .slice ca cb.length cc ∧ Hid (EInv 3 (3000 + 8000 * (t : Int) + 40 * (k : Int)) (gr xs) sa sb cb ps ∧ mu (gr xs) sa ps + k ≤ 160 ∧ Mid (zn + 7 - t) (gr xs) sa sb cb ps) ∧ k ≤ 160 ∧ Sat w wr (BW2 x p0 p1 q0 q1 ps :: PL p0 sa :: PL p1 sb :: brs ca cb.length cc cb :: DL q0 (LS.new 3) :: DL q1 (LS.new 3) :: [])) (fun _ i _ => 160 - (intOf i).toNat)
                case atStart => exact ⟨0, sa, sb, ps, cb, ca, cc, rfl, rfl, ⟨HI0.out.1.mono (by omega), HI0.out.2.1, HI0.out.2.2.mid⟩, by omega, S4⟩
                case round =>
                  clear S4 HI0
                  obtain ⟨k, sa, sb, ps, cb, ca, cc, rfl, rfl, HI1, hk160, S4⟩ := hrel
                  obtain ⟨hI, hMK, hMM⟩ := HI1.out
                  clear HI1
                  have k0 : (0 : Int) ≤ (k : Int) := by omega
                  have hk5 : decide ((k : Int) < 5000) = true := decide_eq_true (by omega)
                  have hwk : IntKind.i64.wrap ((k : Int) + 1) = (k : Int) + 1 := by rw [IntKind.wrap_i64]; omega
                  cases ps with
                  | nil =>
                    generalize hw3' : wr = w3 at S4 ⊢
                    clear hw3'
                    obtain ⟨wa, wc, S5⟩ := BW2_open.1 S4
                    have hcx := S5.cell 0 rfl 4
                    have hcy := S5.cell 0 rfl 0
                    simp only [List.getElem?_cons_zero, List.getElem?_cons_succ, List.length_nil] at hcx hcy
                    have hln2 : decide ((0 : Int) < ((0 : Nat) : Int)) = false := rfl
                    have hoka := hI.e.oka
                    have hokb := hI.e.okb
                    have htb := tick_b hI.e
                    have hsm := hoka.tickOut (by omega)
                    have hol := tick_outs_len hoka
                    have hE2 := hI.tickA.tickB
                    have hm2 := tickA_mu hI (by rw [HGL.out]; exact H60.out)
                    have hN2 := Near.next hI (by omega) hMM
                    have HTA := Lib.hid (fun (w' : World) (M : List Asn) (h : Sat w w' (PL p0 sa :: M)) => tick_any h hoka (by omega))
                    have HTB := Lib.hid (fun (w' : World) (M : List Asn) (h : Sat w w' (PL p1 sb :: M)) => tick_any h hokb (by omega))
                    generalize tickP sa = R at hE2 hm2 hN2 hsm hol HTA
                    generalize tickP sb = R2 at hE2 hN2 HTB htb
                    obtain ⟨ou, sa'⟩ := R
                    obtain ⟨ou2, sb'⟩ := R2
                    obtain rfl : ou2 = [] := (Prod.mk.inj htb).1
                    dsimp only at hE2 hm2 hN2 hsm hol
                    have HSM : Hid (∀ r ∈ ou, r.length ≤ 1000000) := fun r hr => by have := (hsm r hr).2; omega
                    have e9 : zn + 7 - (t + 1) = zn + 7 - t - 1 := by omega
                    rw [← e9] at hN2
                    have HI2 := Lib.hid (⟨hE2.mono (by omega), hm2, hN2⟩ : EInv 3 (3000 + 8000 * ((t + 1 : Nat) : Int)) (gr xs) sa' sb' cb (ou.map fun x => ((1 : Int), x)) ∧ _ ∧ _)
                    clear hwk S4 hI hMK hMM htb hE2 hm2 hN2 hsm hoka hokb e9
                    go_wp2_with (first
                      | (go_at_call 22; refine (HTB.out _ _ (S8.sel [3])).mono ?_; rintro e w9 ⟨ob, oc2, rfl, S9⟩; have S10 := (BW2_open.2 ⟨wa2, wc2, S9.sel [2, 2]⟩).sel [0, 0])
                      | (go_at_call 22; refine (HTA.out _ _ (S5.sel [2])).mono ?_; rintro e w6 ⟨oa, oc, rfl, S6⟩; have S6b := (BW2_open.2 ⟨wa, wc, S6.sel [2, 2]⟩).sel [0, 0])
                      | (go_at_call 23; refine (out1_any S10 (fun r hr => by simp at hr) (by simp) (by simp; omega)).mono ?_; rintro e w11 ⟨rfl, S11⟩)
                      | (go_at_call 23; refine (out0_any S6b HSM.out (by omega) (by simp)).mono ?_; rintro e w7 ⟨rfl, S7⟩; obtain ⟨wa2, wc2, S8⟩ := BW2_open.1 (S7.sel [1]).tail; have hcz := S8.cell 0 rfl 1; simp only [List.getElem?_cons_zero, List.getElem?_cons_succ] at hcz))
                    have S12 := (S11.sel [1]).tail.sel [0, 1]
                    rw [List.map_nil, List.append_nil, List.nil_append] at S12
                    exact ⟨⟨t + 1, sa', sb', _, cb, ca, cc, by omega, by omega, by go_num, rfl, HI2.out, S12⟩, by simp [intOf]; omega⟩
                  | cons hp ps =>
                    obtain ⟨tg, p⟩ := hp
                    have hpos : 0 < mu (gr xs) sa ((tg, p) :: ps) := by have := mu_len (G := gr xs) (a := sa) (way := (tg, p) :: ps); simp only [List.length_cons] at this; omega
                    have hk159 : k < 160 := by omega
                    generalize hw3' : wr = w3 at S4 ⊢
                    clear hw3'
                    have hhd := hI.head (by omega)
                    have HPB := Lib.hid hhd.2
                    have hps9 : ps.length ≤ 160 := by have := mu_len (G := gr xs) (a := sa) (way := (tg, p) :: ps); have := hMK; simp only [List.length_cons] at *; omega
                    have HD1 := Lib.hid hhd.1
                    have HI := Lib.hid hI
                    have HMM := Lib.hid hMM
                    have HMK := Lib.hid hMK
                    obtain ⟨wa, wc, S5⟩ := BW2_open.1 S4
                    obtain ⟨hs, -, hsl, S6⟩ := WAY_out (S5.sel [1])
                    clear S4 S5 hI hMM hMK hhd
                    cases hs with
                    | nil => simp at hsl
                    | cons hd hs =>
                    obtain ⟨wb, wo, rfl, c0⟩ := S6.own_rd 0 (.int .i64 tg) rfl
                    have c1 := S6.own_rd.at (j := 1) (u := hv hd) rfl
                    rw [Nat.add_zero] at c0
                    have hlc := S6.own_len
                    have hpl := (rowsB_pop (S6.sel [1])).2
                    obtain ⟨pa, pn, pc⟩ := hd
                    dsimp only at hpl
                    subst hpl
                    have HCW : Hid (∀ j, j < 2 → w3.cell? ⟨wb, wo + j, none⟩ = ([.int .i64 tg, .slice pa p.length pc] : List Value)[j]?) := by
                      show ∀ j, j < 2 → _
                      intro j hj
                      match j, hj with
                      | 0, _ => exact c0
                      | 1, _ => exact c1
                    clear c0 c1
                    have hcx := S6.cell 2 rfl 4
                    simp only [List.getElem?_cons_zero, List.getElem?_cons_succ, List.length_cons] at hcx
                    have S7 := (S6.sel [2, 0, 0]).alloc [.int .i64 0, .slice none 0 0] 58
                    have hcw4 := S7.cell 1 rfl 4
                    have hcf4 := S7.frozen 1 rfl 4
                    simp only [List.getElem?_cons_zero, List.getElem?_cons_succ] at hcw4
                    have hln1 : (0 : Int) < ((ps.length + 1 : Nat) : Int) := by omega
                    have hcap : wc = 1 ∨ 1 < wc := by have := hlc.2.1; simp only [List.length_cons] at this; omega
                    clear S6
                    have hk2 : (k : Int) + 1 ≤ 160 := by omega
                    have HOUT := Lib.hid (⟨t0, hw3, hw6, hw200, htl, htl6, ht6, htT, hps9, hpos, hk159, hk2, k0⟩ : _ ∧ _ ∧ _ ∧ _ ∧ _ ∧ _ ∧ _ ∧ _ ∧ _ ∧ _ ∧ _ ∧ _ ∧ _)
                    have HLC := Lib.hid hlc
                    have hln2 : decide ((0 : Int) < ((ps.length : Nat) : Int) + 1) = true := decide_eq_true (by omega)
                    clear t0 hw3 hw6 hw200 htl htl6 ht6 htT hps9 hpos hk159 hk2 k0 hlc hln1 hlm hzm h60 hk160 hsl
                    rcases hcap with rfl | hc1
                    all_goals
                      go_upto_region 25 with fail
                      clear hk5 hln2
                      go_upto_region 26 with (first
                        | (refine wpList_load_part rfl 58 _ rfl (n := 2) rfl HCW.out rfl Try.underlying58 rfl Try.sizeK ?_)
                        | (refine wpList_store_sat (off := 0) (n := 2) rfl 58 _ _ rfl S7 rfl rfl rfl (by simp) Try.sizeK (by simp [Value.oneCell']) ?_; intro w8 S8; have hcw5 := S8.cell 1 rfl 4; have hcf5 := S8.frozen 1 rfl 4; simp only [List.getElem?_cons_zero, List.getElem?_cons_succ, List.length_cons] at hcw5))
                      clear hcw4 hcf4 hcx S7
                      have hlb := HLC.out.2.1
                      simp only [List.length_cons] at hlb
                      go_upto_region 27 with fail
                    have S9 := S8.setCell (k := 4) (v := .slice (some ⟨wb, wo, none⟩) 0 0) 1 rfl
                    obtain ⟨e0, ey, S10⟩ := own_lastN (xs := [.int .i64 tg, hv (pa, p.length, pc)]) (by simp) rfl (S9.sel [2])
                    have S10b := (rowsB_pop (S10.sel [3])).1
                    have e9 : slc 58 2 (some ⟨wb, wo, none⟩) ps.length 0 (wayV ps hs) = slc 58 2 (some ⟨wb, wo, none⟩) 0 0 [] := by rw [e0, ey]
                    have e10 : BK x p0 p1 q0 q1 (.slice (some ⟨wb, wo, none⟩) ps.length 0) = BK x p0 p1 q0 q1 (.slice (some ⟨wb, wo, none⟩) 0 0) := by rw [e0]
                    have S11 : Sat w (w8.setCell ⟨x, 4, none⟩ (.slice (some ⟨wb, wo, none⟩) 0 0)) (BK x p0 p1 q0 q1 (.slice (some ⟨wb, wo, none⟩) ps.length 0) :: slc 58 2 (some ⟨wb, wo, none⟩) ps.length 0 (wayV ps hs) :: sbs pa p.length pc p :: rowsB hs (ps.map (·.2)) :: blk w3.heap.size [.int .i64 tg, .slice pa p.length pc] 58 :: PL p0 sa :: PL p1 sb :: brs ca cb.length cc cb :: DL q0 (LS.new 3) :: DL q1 (LS.new 3) :: []) := by rw [e9, e10]; exact S10b.sel [4, 2, 0, 0]
                    generalize World.setCell w8 _ _ = w9 at S11 ⊢
                    obtain ⟨wa', wc', S11⟩ : ∃ wa' wc', Sat w w9 (BK x p0 p1 q0 q1 (.slice wa' ps.length wc') :: slc 58 2 wa' ps.length wc' (wayV ps hs) :: sbs pa p.length pc p :: rowsB hs (ps.map (·.2)) :: blk w3.heap.size [.int .i64 tg, .slice pa p.length pc] 58 :: PL p0 sa :: PL p1 sb :: brs ca cb.length cc cb :: DL q0 (LS.new 3) :: DL q1 (LS.new 3) :: []) := ⟨_, _, S11⟩
                    clear S8 S9 S10 S10b hcw5 hcf5 e0 ey e9 e10 hlb
                    generalize w3.heap.size = pp at S11 ⊢
                    rotate_left
                    have S9 := S8.setCell (k := 4) (v := .slice (some ⟨wb, wo + 2, none⟩) ps.length (wc - 1)) 1 rfl
                    have S10 := own_nextN (xs := [.int .i64 tg, hv (pa, p.length, pc)]) rfl (S9.sel [2])
                    have S10b := (rowsB_pop (S10.sel [3])).1
                    have S11 : Sat w (w8.setCell ⟨x, 4, none⟩ (.slice (some ⟨wb, wo + 2, none⟩) ps.length (wc - 1))) (BK x p0 p1 q0 q1 (.slice (some ⟨wb, wo + 2, none⟩) ps.length (wc - 1)) :: slc 58 2 (some ⟨wb, wo + 2, none⟩) ps.length (wc - 1) (wayV ps hs) :: sbs pa p.length pc p :: rowsB hs (ps.map (·.2)) :: blk w3.heap.size [.int .i64 tg, .slice pa p.length pc] 58 :: PL p0 sa :: PL p1 sb :: brs ca cb.length cc cb :: DL q0 (LS.new 3) :: DL q1 (LS.new 3) :: []) := S10b.sel [4, 2, 0, 0]
                    generalize World.setCell w8 _ _ = w9 at S11 ⊢
                    obtain ⟨wa', wc', S11⟩ : ∃ wa' wc', Sat w w9 (BK x p0 p1 q0 q1 (.slice wa' ps.length wc') :: slc 58 2 wa' ps.length wc' (wayV ps hs) :: sbs pa p.length pc p :: rowsB hs (ps.map (·.2)) :: blk w3.heap.size [.int .i64 tg, .slice pa p.length pc] 58 :: PL p0 sa :: PL p1 sb :: brs ca cb.length cc cb :: DL q0 (LS.new 3) :: DL q1 (LS.new 3) :: []) := ⟨_, _, S11⟩
                    clear S8 S9 S10 S10b hcw5 hcf5 hlb hc1
                    generalize w3.heap.size = pp at S11 ⊢
                    rotate_left
                    all_goals
                      clear HCW HLC
                      have ht0 : (0 : Int) ≤ (t : Int) := by omega
                      by_cases htz : t < zn
                      · have hd27 : decide ((t : Int) < (zn : Int)) = true := decide_eq_true (by omega)
                        have htz1 : (t : Int) < (zn : Int) := by omega
                        obtain ⟨v, hv⟩ : ∃ v, zs[t]? = some v := ⟨zs[t]'(by rw [HZL.out]; exact htz), List.getElem?_eq_getElem _⟩
                        obtain ⟨zb, zo, rfl, cz⟩ := (HZ.out.below S11.below) t (.int .i64 v) (nv_at hv)
                        have hbv : bits .and .i64 v 1 = v % 2 := i64_mask v 1 1 rfl (by decide)
                        clear hv
                        by_cases hv1 : v % 2 = 1
                        · have hv2 : (v % 2 == 1) = true := by simpa using hv1
                          clear hv1
                          obtain ⟨hE1, hm1⟩ := HI.out.lose
                          have HE1 := Lib.hid hE1
                          have HMU1 := Lib.hid hm1
                          clear hE1 hm1
                          go_wp2_with fail
                          have S18 := WAY_in rfl (S11.sel [1, 2])
                          have S19 := ((BW2_open.2 ⟨wa', wc', S18.swap⟩).sel [1, 1]).tail.tail
                          exact ⟨⟨k + 1, sa, sb, ps, cb, ca, cc, by go_num, rfl, ⟨HE1.out.mono (by omega), by have := HMU1.out; have := HMK.out; omega, .inr (.inr (.inr (by omega)))⟩, by have := HOUT.out; omega, S19⟩, by have := HOUT.out; simp [intOf]; omega⟩
                        · have hv2 : (v % 2 == 1) = false := by simpa using hv1
                          clear hv1
                          go_upto_region 28 with fail
                          clear hd27 htz1 htz cz hbv hv2 ht0
                          rcases HD1.out with rfl | rfl
                          · obtain ⟨hE1, hm1, -⟩ := HI.out.hear1 (by have := HOUT.out; omega)
                            have hM1 := Mid.hear1 HI.out (by have := HOUT.out; omega) HMM.out
                            have hokb := HI.out.e.okb
                            have hsm := hokb.hearOut (by have := HOUT.out; omega) p
                            have hol := hear_outs_len (s := sb) (b := p)
                            have HHA := Lib.hid (fun (w' : World) (M : List Asn) (h : Sat w w' (PL p1 sb :: M)) (hR : ∀ w', Sat w w' M → Rd w' pa (bv p)) (hc : p.length ≤ pc) => hear_any h hokb (by have := HOUT.out; omega) hR rfl HPB.out.1 hc (by have := HPB.out.2; omega))
                            have hcl := came_len HI.out
                            generalize hearP sb p = R at hE1 hm1 hM1 hsm hol HHA
                            obtain ⟨rr, oo, sb'⟩ := R
                            dsimp only at hE1 hm1 hM1 hsm hol
                            have hcl2 := came_len hE1
                            rw [List.length_append] at hcl2
                            have HSM : Hid (∀ r ∈ oo, r.length ≤ 1000000) := fun r hr => by have := (hsm r hr).2; omega
                            have HE1 := Lib.hid hE1
                            have HM1 := Lib.hid hM1
                            have HMU1 := Lib.hid hm1
                            have HLEN2 := Lib.hid (⟨hcl2, hol⟩ : _ ∧ _)
                            clear hE1 hm1 hM1 hokb hsm hol hcl hcl2
                            refine wp_region_drawn (N := 15) (LN := #[false, false, false, false, false, false, false, false, false, false, false, false, false, false, false]) (by kernel_rfl) (by kernel_rfl) (by kernel_rfl) ?_
                            have S12 := S11.drew
                            generalize w9.drew = w12 at S12 ⊢
                            have hb0 := S12.cell 0 rfl 1
                            have hp0 := S12.cell 4 rfl 0
                            have hp1 := S12.cell 4 rfl 1
                            simp only [List.getElem?_cons_zero, List.getElem?_cons_succ] at hb0 hp0 hp1
                            refine wpAny_seg 0 9 6 15 #[true, true, true, true, true, true, true, true, true, false, false, false, false, false, false] (by kernel_rfl) (by kernel_rfl) ?_
                            simp only [List.take_succ_cons, List.take_zero, List.drop_succ_cons, List.drop_zero]
                            refine wpStill_step (fun K hK => ?_); go_simp; refine hK _ ?_; clear hK K
                            try simp only [Act.put, List.getElem_toArray, List.getElem_cons_zero, List.getElem_cons_succ, List.setIfInBounds_toArray, List.set_cons_zero, List.set_cons_succ]
                            refine wpStill_step (fun K hK => ?_); go_simp; refine hK _ ?_; clear hK K
                            try simp only [Act.put, List.getElem_toArray, List.getElem_cons_zero, List.getElem_cons_succ, List.setIfInBounds_toArray, List.set_cons_zero, List.set_cons_succ]
                            refine wpStill_step (fun K hK => ?_); go_simp; refine hK _ ?_; clear hK K
                            try simp only [Act.put, List.getElem_toArray, List.getElem_cons_zero, List.getElem_cons_succ, List.setIfInBounds_toArray, List.set_cons_zero, List.set_cons_succ]
                            refine wpStill_step (fun K hK => ?_); go_simp; refine hK _ ?_; clear hK K
                            try simp only [Act.put, List.getElem_toArray, List.getElem_cons_zero, List.getElem_cons_succ, List.setIfInBounds_toArray, List.set_cons_zero, List.set_cons_succ]
                            refine wpStill_step (fun K hK => ?_); go_simp; refine hK _ ?_; clear hK K
                            try simp only [Act.put, List.getElem_toArray, List.getElem_cons_zero, List.getElem_cons_succ, List.setIfInBounds_toArray, List.set_cons_zero, List.set_cons_succ]
                            refine wpStill_step (fun K hK => ?_); go_simp; refine hK _ ?_; clear hK K
                            try simp only [Act.put, List.getElem_toArray, List.getElem_cons_zero, List.getElem_cons_succ, List.setIfInBounds_toArray, List.set_cons_zero, List.set_cons_succ]
                            refine wpStill_step (fun K hK => ?_); go_simp; refine hK _ ?_; clear hK K
                            try simp only [Act.put, List.getElem_toArray, List.getElem_cons_zero, List.getElem_cons_succ, List.setIfInBounds_toArray, List.set_cons_zero, List.set_cons_succ]
                            refine wpStill_step (fun K hK => ?_); go_simp; refine hK _ ?_; clear hK K
                            try simp only [Act.put, List.getElem_toArray, List.getElem_cons_zero, List.getElem_cons_succ, List.setIfInBounds_toArray, List.set_cons_zero, List.set_cons_succ]
                            refine wpStill_step (fun K hK => ?_); go_simp; refine hK _ ?_; clear hK K
                            try simp only [Act.put, List.getElem_toArray, List.getElem_cons_zero, List.getElem_cons_succ, List.setIfInBounds_toArray, List.set_cons_zero, List.set_cons_succ]
                            refine wpStill_nil ?_
                            refine wpAny_one (i := 9) (LN := #[true, true, true, true, true, true, true, true, true, true, false, false, false, false, false]) (by kernel_rfl) rfl (by kernel_rfl) ?_
                            intro K hK
                            go_simp
                            go_at_call 15
                            refine (HHA.out _ _ (S12.sel [6]) (fun w' h => (h.sel [2]).own_rd) (sbs_rd (S12.sel [2])).2.2.1).mono ?_
                            unfold HeardP
                            rintro e w13 ⟨ra, rc, oa, oc, rfl, S13⟩
                            dsimp only at S13 ⊢
                            go_wp2_with fail
                            refine hK.out _ _ ?_
                            clear hK K
                            try simp only [Act.put, List.getElem_toArray, List.getElem_cons_zero, List.getElem_cons_succ, List.setIfInBounds_toArray, List.set_cons_zero, List.set_cons_succ]
                            refine wpAny_loc (i := 10) (v := ?_) (LN := #[true, true, true, true, true, true, true, true, true, true, true, false, false, false, false]) rfl (by kernel_rfl) (by kernel_rfl) (by kernel_rfl) (fun _ _ _ h => h) (by kernel_rfl) (by rfl) ?_ ?_
                            rotate_left
                            · intro w; first | (go_simp; done) | (go_simp; with_reducible rfl)
                            try simp only [Act.put, List.getElem_toArray, List.getElem_cons_zero, List.getElem_cons_succ, List.setIfInBounds_toArray, List.set_cons_zero, List.set_cons_succ]
                            refine wpAny_loc (i := 11) (v := ?_) (LN := #[true, true, true, true, true, true, true, true, true, true, true, true, false, false, false]) rfl (by kernel_rfl) (by kernel_rfl) (by kernel_rfl) (fun _ _ _ h => h) (by kernel_rfl) (by rfl) ?_ ?_
                            rotate_left
                            · intro w; first | (go_simp; done) | (go_simp; with_reducible rfl)
                            try simp only [Act.put, List.getElem_toArray, List.getElem_cons_zero, List.getElem_cons_succ, List.setIfInBounds_toArray, List.set_cons_zero, List.set_cons_succ]
                            refine wpAny_loc (i := 12) (v := ?_) (LN := #[true, true, true, true, true, true, true, true, true, true, true, true, true, false, false]) rfl (by kernel_rfl) (by kernel_rfl) (by kernel_rfl) (fun _ _ _ h => h) (by kernel_rfl) (by rfl) ?_ ?_
                            rotate_left
                            · intro w; first | (go_simp; done) | (go_simp; with_reducible rfl)
                            try simp only [Act.put, List.getElem_toArray, List.getElem_cons_zero, List.getElem_cons_succ, List.setIfInBounds_toArray, List.set_cons_zero, List.set_cons_succ]
                            refine wpAny_loc (i := 13) (v := ?_) (LN := #[true, true, true, true, true, true, true, true, true, true, true, true, true, true, false]) rfl (by kernel_rfl) (by kernel_rfl) (by kernel_rfl) (fun _ _ _ h => h) (by kernel_rfl) (by rfl) ?_ ?_
                            rotate_left
                            · intro w; first | (go_simp; done) | (go_simp; with_reducible rfl)
                            try simp only [Act.put, List.getElem_toArray, List.getElem_cons_zero, List.getElem_cons_succ, List.setIfInBounds_toArray, List.set_cons_zero, List.set_cons_succ]
                            refine wpAny_loc (i := 14) (v := ?_) (LN := #[true, true, true, true, true, true, true, true, true, true, true, true, true, true, true]) rfl (by kernel_rfl) (by kernel_rfl) (by kernel_rfl) (fun _ _ _ h => h) (by kernel_rfl) (by rfl) ?_ ?_
                            rotate_left
                            · intro w; first | (go_simp; done) | (go_simp; with_reducible rfl)
                            try simp only [Act.put, List.getElem_toArray, List.getElem_cons_zero, List.getElem_cons_succ, List.setIfInBounds_toArray, List.set_cons_zero, List.set_cons_succ]
                            refine ⟨by kernel_rfl, ?_⟩
                            try simp only [Act.put, List.getElem_toArray, List.getElem_cons_zero, List.getElem_cons_succ, List.setIfInBounds_toArray, List.set_cons_zero, List.set_cons_succ]
                            clear hb0 hp0 hp1 S12 S11
                            have hp0 := S13.cell 7 rfl 0
                            simp only [List.getElem?_cons_zero, List.getElem?_cons_succ] at hp0
                            go_wp2_with (first
                              | (at_builtin; (obtain ⟨hc, hcn, hcl, S14⟩ := brs_out (S13.sel [9]); obtain ⟨hr, hrn, hrl, S15⟩ := brs_out (S14.sel [2])); refine wpList_append_sat rfl (.tmp 140) (.tmp 141) _ rfl 29 i0 _ 1 24 Try.underlying25 hi hz0 hz1 hz2 rfl (by decide) (S15.sel [2]) rfl rfl S15.own_rd (by rw [List.length_map, hrl, Nat.mul_one]) (hv_one _) (by have := HLEN2.out; have := HGL.out; have := H60.out; unfold maxLen; omega) (by have := HLEN2.out; have := HGL.out; have := H60.out; omega) ?_; intro ca2 cc2 w16 S16; have S17 := brs_cat (n := cb.length) (m := rr.length) rfl rfl (S16.sel [0, 2, 1]); have hp8 := S17.cell 8 rfl 0; simp only [List.getElem?_cons_zero, List.getElem?_cons_succ] at hp8; have S18 := WAY_in rfl (S17.sel [5, 6]); have S19 := (BW2_open.2 ⟨wa', wc', S18.sel [5]⟩).sel [0, 2])
                              | (go_at_call 23; refine (out1_any S19 HSM.out (by have := HLEN2.out; omega) (by have := HOUT.out; omega)).mono ?_; rintro e w20 ⟨rfl, S20⟩))
                            have S21 := (S20.sel [1, 2, 3, 3]).tail.tail.tail.tail.sel [0, 2, 1]
                            rw [← List.length_append] at S21
                            exact ⟨⟨k + 1, sa, sb', _, cb ++ rr, ca2, cc2, by go_num, by rw [List.length_append], ⟨HE1.out.mono (by omega), by have := HMU1.out; have := HMK.out; omega, HM1.out⟩, by have := HOUT.out; omega, S21⟩, by have := HOUT.out; simp [intOf]; omega⟩
                          · obtain ⟨hE1, hm1, -⟩ := HI.out.hear0 (by have := HOUT.out; omega)
                            have hM1 := Mid.hear0 HI.out (by have := HOUT.out; omega) HMM.out
                            have hoka := HI.out.e.oka
                            have hsm := hoka.hearOut (by have := HOUT.out; omega) p
                            have hol := hear_outs_len (s := sa) (b := p)
                            have HHA := Lib.hid (fun (w' : World) (M : List Asn) (h : Sat w w' (PL p0 sa :: M)) (hR : ∀ w', Sat w w' M → Rd w' pa (bv p)) (hc : p.length ≤ pc) => hear_any h hoka (by have := HOUT.out; omega) hR rfl HPB.out.1 hc (by have := HPB.out.2; omega))
                            generalize hearP sa p = R at hE1 hm1 hM1 hsm hol HHA
                            obtain ⟨rr, oo, sa'⟩ := R
                            dsimp only at hE1 hm1 hM1 hsm hol
                            have HSM : Hid (∀ r ∈ oo, r.length ≤ 1000000) := fun r hr => by have := (hsm r hr).2; omega
                            have HE1 := Lib.hid hE1
                            have HM1 := Lib.hid hM1
                            have HMU1 := Lib.hid hm1
                            have HLEN2 := Lib.hid hol
                            clear hE1 hm1 hM1 hoka hsm hol
                            refine wp_region_drawn (N := 15) (LN := #[false, false, false, false, false, false, false, false, false, false, false, false, false, false, false]) (by kernel_rfl) (by kernel_rfl) (by kernel_rfl) ?_
                            have S12 := S11.drew
                            generalize w9.drew = w12 at S12 ⊢
                            have hb0 := S12.cell 0 rfl 0
                            have hp0 := S12.cell 4 rfl 0
                            have hp1 := S12.cell 4 rfl 1
                            simp only [List.getElem?_cons_zero, List.getElem?_cons_succ] at hb0 hp0 hp1
                            refine wpAny_seg 0 9 6 15 #[true, true, true, true, true, true, true, true, true, false, false, false, false, false, false] (by kernel_rfl) (by kernel_rfl) ?_
                            simp only [List.take_succ_cons, List.take_zero, List.drop_succ_cons, List.drop_zero]
                            refine wpStill_step (fun K hK => ?_); go_simp; refine hK _ ?_; clear hK K
                            try simp only [Act.put, List.getElem_toArray, List.getElem_cons_zero, List.getElem_cons_succ, List.setIfInBounds_toArray, List.set_cons_zero, List.set_cons_succ]
                            refine wpStill_step (fun K hK => ?_); go_simp; refine hK _ ?_; clear hK K
                            try simp only [Act.put, List.getElem_toArray, List.getElem_cons_zero, List.getElem_cons_succ, List.setIfInBounds_toArray, List.set_cons_zero, List.set_cons_succ]
                            refine wpStill_step (fun K hK => ?_); go_simp; refine hK _ ?_; clear hK K
                            try simp only [Act.put, List.getElem_toArray, List.getElem_cons_zero, List.getElem_cons_succ, List.setIfInBounds_toArray, List.set_cons_zero, List.set_cons_succ]
                            refine wpStill_step (fun K hK => ?_); go_simp; refine hK _ ?_; clear hK K
                            try simp only [Act.put, List.getElem_toArray, List.getElem_cons_zero, List.getElem_cons_succ, List.setIfInBounds_toArray, List.set_cons_zero, List.set_cons_succ]
                            refine wpStill_step (fun K hK => ?_); go_simp; refine hK _ ?_; clear hK K
                            try simp only [Act.put, List.getElem_toArray, List.getElem_cons_zero, List.getElem_cons_succ, List.setIfInBounds_toArray, List.set_cons_zero, List.set_cons_succ]
                            refine wpStill_step (fun K hK => ?_); go_simp; refine hK _ ?_; clear hK K
                            try simp only [Act.put, List.getElem_toArray, List.getElem_cons_zero, List.getElem_cons_succ, List.setIfInBounds_toArray, List.set_cons_zero, List.set_cons_succ]
                            refine wpStill_step (fun K hK => ?_); go_simp; refine hK _ ?_; clear hK K
                            try simp only [Act.put, List.getElem_toArray, List.getElem_cons_zero, List.getElem_cons_succ, List.setIfInBounds_toArray, List.set_cons_zero, List.set_cons_succ]
                            refine wpStill_step (fun K hK => ?_); go_simp; refine hK _ ?_; clear hK K
                            try simp only [Act.put, List.getElem_toArray, List.getElem_cons_zero, List.getElem_cons_succ, List.setIfInBounds_toArray, List.set_cons_zero, List.set_cons_succ]
                            refine wpStill_step (fun K hK => ?_); go_simp; refine hK _ ?_; clear hK K
                            try simp only [Act.put, List.getElem_toArray, List.getElem_cons_zero, List.getElem_cons_succ, List.setIfInBounds_toArray, List.set_cons_zero, List.set_cons_succ]
                            refine wpStill_nil ?_
                            refine wpAny_one (i := 9) (LN := #[true, true, true, true, true, true, true, true, true, true, false, false, false, false, false]) (by kernel_rfl) rfl (by kernel_rfl) ?_
                            intro K hK
                            go_simp
                            go_at_call 15
                            refine (HHA.out _ _ (S12.sel [5]) (fun w' h => (h.sel [2]).own_rd) (sbs_rd (S12.sel [2])).2.2.1).mono ?_
                            unfold HeardP
                            rintro e w13 ⟨ra, rc, oa, oc, rfl, S13⟩
                            dsimp only at S13 ⊢
                            go_wp2_with fail
                            refine hK.out _ _ ?_
                            clear hK K
                            try simp only [Act.put, List.getElem_toArray, List.getElem_cons_zero, List.getElem_cons_succ, List.setIfInBounds_toArray, List.set_cons_zero, List.set_cons_succ]
                            refine wpAny_loc (i := 10) (v := ?_) (LN := #[true, true, true, true, true, true, true, true, true, true, true, false, false, false, false]) rfl (by kernel_rfl) (by kernel_rfl) (by kernel_rfl) (fun _ _ _ h => h) (by kernel_rfl) (by rfl) ?_ ?_
                            rotate_left
                            · intro w; first | (go_simp; done) | (go_simp; with_reducible rfl)
                            try simp only [Act.put, List.getElem_toArray, List.getElem_cons_zero, List.getElem_cons_succ, List.setIfInBounds_toArray, List.set_cons_zero, List.set_cons_succ]
                            refine wpAny_loc (i := 11) (v := ?_) (LN := #[true, true, true, true, true, true, true, true, true, true, true, true, false, false, false]) rfl (by kernel_rfl) (by kernel_rfl) (by kernel_rfl) (fun _ _ _ h => h) (by kernel_rfl) (by rfl) ?_ ?_
                            rotate_left
                            · intro w; first | (go_simp; done) | (go_simp; with_reducible rfl)
                            try simp only [Act.put, List.getElem_toArray, List.getElem_cons_zero, List.getElem_cons_succ, List.setIfInBounds_toArray, List.set_cons_zero, List.set_cons_succ]
                            refine wpAny_loc (i := 12) (v := ?_) (LN := #[true, true, true, true, true, true, true, true, true, true, true, true, true, false, false]) rfl (by kernel_rfl) (by kernel_rfl) (by kernel_rfl) (fun _ _ _ h => h) (by kernel_rfl) (by rfl) ?_ ?_
                            rotate_left
                            · intro w; first | (go_simp; done) | (go_simp; with_reducible rfl)
                            try simp only [Act.put, List.getElem_toArray, List.getElem_cons_zero, List.getElem_cons_succ, List.setIfInBounds_toArray, List.set_cons_zero, List.set_cons_succ]
                            refine wpAny_loc (i := 13) (v := ?_) (LN := #[true, true, true, true, true, true, true, true, true, true, true, true, true, true, false]) rfl (by kernel_rfl) (by kernel_rfl) (by kernel_rfl) (fun _ _ _ h => h) (by kernel_rfl) (by rfl) ?_ ?_
                            rotate_left
                            · intro w; first | (go_simp; done) | (go_simp; with_reducible rfl)
                            try simp only [Act.put, List.getElem_toArray, List.getElem_cons_zero, List.getElem_cons_succ, List.setIfInBounds_toArray, List.set_cons_zero, List.set_cons_succ]
                            refine wpAny_loc (i := 14) (v := ?_) (LN := #[true, true, true, true, true, true, true, true, true, true, true, true, true, true, true]) rfl (by kernel_rfl) (by kernel_rfl) (by kernel_rfl) (fun _ _ _ h => h) (by kernel_rfl) (by rfl) ?_ ?_
                            rotate_left
                            · intro w; first | (go_simp; done) | (go_simp; with_reducible rfl)
                            try simp only [Act.put, List.getElem_toArray, List.getElem_cons_zero, List.getElem_cons_succ, List.setIfInBounds_toArray, List.set_cons_zero, List.set_cons_succ]
                            refine ⟨by kernel_rfl, ?_⟩
                            try simp only [Act.put, List.getElem_toArray, List.getElem_cons_zero, List.getElem_cons_succ, List.setIfInBounds_toArray, List.set_cons_zero, List.set_cons_succ]
                            clear hb0 hp0 hp1 S12 S11
                            have hp0 := S13.cell 7 rfl 0
                            simp only [List.getElem?_cons_zero, List.getElem?_cons_succ] at hp0
                            have S18 := WAY_in rfl (S13.sel [4, 5])
                            have S19 := (BW2_open.2 ⟨wa', wc', S18.sel [4]⟩).sel [0, 1]
                            go_wp2_with (first
                              | (go_at_call 23; refine (out0_any S19 HSM.out (by have := HLEN2.out; omega) (by have := HOUT.out; omega)).mono ?_; rintro e w20 ⟨rfl, S20⟩))
                            have S21 := (S20.sel [1, 1, 2, 2]).tail.tail.tail.tail
                            exact ⟨⟨k + 1, sa', sb, _, cb, ca, cc, by go_num, rfl, ⟨HE1.out.mono (by omega), by have := HMU1.out; have := HMK.out; omega, HM1.out⟩, by have := HOUT.out; omega, S21⟩, by have := HOUT.out; simp [intOf]; omega⟩
                      · have hd27 : decide ((t : Int) < (zn : Int)) = false := decide_eq_false (by omega)
                        go_upto_region 28 with fail
                        clear hd27 htz ht0
                        rcases HD1.out with rfl | rfl
                        · obtain ⟨hE1, hm1, -⟩ := HI.out.hear1 (by have := HOUT.out; omega)
                          have hM1 := Mid.hear1 HI.out (by have := HOUT.out; omega) HMM.out
                          have hokb := HI.out.e.okb
                          have hsm := hokb.hearOut (by have := HOUT.out; omega) p
                          have hol := hear_outs_len (s := sb) (b := p)
                          have HHA := Lib.hid (fun (w' : World) (M : List Asn) (h : Sat w w' (PL p1 sb :: M)) (hR : ∀ w', Sat w w' M → Rd w' pa (bv p)) (hc : p.length ≤ pc) => hear_any h hokb (by have := HOUT.out; omega) hR rfl HPB.out.1 hc (by have := HPB.out.2; omega))
                          have hcl := came_len HI.out
                          generalize hearP sb p = R at hE1 hm1 hM1 hsm hol HHA
                          obtain ⟨rr, oo, sb'⟩ := R
                          dsimp only at hE1 hm1 hM1 hsm hol
                          have hcl2 := came_len hE1
                          rw [List.length_append] at hcl2
                          have HSM : Hid (∀ r ∈ oo, r.length ≤ 1000000) := fun r hr => by have := (hsm r hr).2; omega
                          have HE1 := Lib.hid hE1
                          have HM1 := Lib.hid hM1
                          have HMU1 := Lib.hid hm1
                          have HLEN2 := Lib.hid (⟨hcl2, hol⟩ : _ ∧ _)
                          clear hE1 hm1 hM1 hokb hsm hol hcl hcl2
                          refine wp_region_drawn (N := 15) (LN := #[false, false, false, false, false, false, false, false, false, false, false, false, false, false, false]) (by kernel_rfl) (by kernel_rfl) (by kernel_rfl) ?_
                          have S12 := S11.drew
                          generalize w9.drew = w12 at S12 ⊢
                          have hb0 := S12.cell 0 rfl 1
                          have hp0 := S12.cell 4 rfl 0
                          have hp1 := S12.cell 4 rfl 1
                          simp only [List.getElem?_cons_zero, List.getElem?_cons_succ] at hb0 hp0 hp1
                          refine wpAny_seg 0 9 6 15 #[true, true, true, true, true, true, true, true, true, false, false, false, false, false, false] (by kernel_rfl) (by kernel_rfl) ?_
                          simp only [List.take_succ_cons, List.take_zero, List.drop_succ_cons, List.drop_zero]
                          refine wpStill_step (fun K hK => ?_); go_simp; refine hK _ ?_; clear hK K
                          try simp only [Act.put, List.getElem_toArray, List.getElem_cons_zero, List.getElem_cons_succ, List.setIfInBounds_toArray, List.set_cons_zero, List.set_cons_succ]
                          refine wpStill_step (fun K hK => ?_); go_simp; refine hK _ ?_; clear hK K
                          try simp only [Act.put, List.getElem_toArray, List.getElem_cons_zero, List.getElem_cons_succ, List.setIfInBounds_toArray, List.set_cons_zero, List.set_cons_succ]
                          refine wpStill_step (fun K hK => ?_); go_simp; refine hK _ ?_; clear hK K
                          try simp only [Act.put, List.getElem_toArray, List.getElem_cons_zero, List.getElem_cons_succ, List.setIfInBounds_toArray, List.set_cons_zero, List.set_cons_succ]
                          refine wpStill_step (fun K hK => ?_); go_simp; refine hK _ ?_; clear hK K
                          try simp only [Act.put, List.getElem_toArray, List.getElem_cons_zero, List.getElem_cons_succ, List.setIfInBounds_toArray, List.set_cons_zero, List.set_cons_succ]
                          refine wpStill_step (fun K hK => ?_); go_simp; refine hK _ ?_; clear hK K
                          try simp only [Act.put, List.getElem_toArray, List.getElem_cons_zero, List.getElem_cons_succ, List.setIfInBounds_toArray, List.set_cons_zero, List.set_cons_succ]
                          refine wpStill_step (fun K hK => ?_); go_simp; refine hK _ ?_; clear hK K
                          try simp only [Act.put, List.getElem_toArray, List.getElem_cons_zero, List.getElem_cons_succ, List.setIfInBounds_toArray, List.set_cons_zero, List.set_cons_succ]
                          refine wpStill_step (fun K hK => ?_); go_simp; refine hK _ ?_; clear hK K
                          try simp only [Act.put, List.getElem_toArray, List.getElem_cons_zero, List.getElem_cons_succ, List.setIfInBounds_toArray, List.set_cons_zero, List.set_cons_succ]
                          refine wpStill_step (fun K hK => ?_); go_simp; refine hK _ ?_; clear hK K
                          try simp only [Act.put, List.getElem_toArray, List.getElem_cons_zero, List.getElem_cons_succ, List.setIfInBounds_toArray, List.set_cons_zero, List.set_cons_succ]
                          refine wpStill_step (fun K hK => ?_); go_simp; refine hK _ ?_; clear hK K
                          try simp only [Act.put, List.getElem_toArray, List.getElem_cons_zero, List.getElem_cons_succ, List.setIfInBounds_toArray, List.set_cons_zero, List.set_cons_succ]
                          refine wpStill_nil ?_
                          refine wpAny_one (i := 9) (LN := #[true, true, true, true, true, true, true, true, true, true, false, false, false, false, false]) (by kernel_rfl) rfl (by kernel_rfl) ?_
                          intro K hK
                          go_simp
                          go_at_call 15
                          refine (HHA.out _ _ (S12.sel [6]) (fun w' h => (h.sel [2]).own_rd) (sbs_rd (S12.sel [2])).2.2.1).mono ?_
                          unfold HeardP
                          rintro e w13 ⟨ra, rc, oa, oc, rfl, S13⟩
                          dsimp only at S13 ⊢
                          go_wp2_with fail
                          refine hK.out _ _ ?_
                          clear hK K
                          try simp only [Act.put, List.getElem_toArray, List.getElem_cons_zero, List.getElem_cons_succ, List.setIfInBounds_toArray, List.set_cons_zero, List.set_cons_succ]
                          refine wpAny_loc (i := 10) (v := ?_) (LN := #[true, true, true, true, true, true, true, true, true, true, true, false, false, false, false]) rfl (by kernel_rfl) (by kernel_rfl) (by kernel_rfl) (fun _ _ _ h => h) (by kernel_rfl) (by rfl) ?_ ?_
                          rotate_left
                          · intro w; first | (go_simp; done) | (go_simp; with_reducible rfl)
                          try simp only [Act.put, List.getElem_toArray, List.getElem_cons_zero, List.getElem_cons_succ, List.setIfInBounds_toArray, List.set_cons_zero, List.set_cons_succ]
                          refine wpAny_loc (i := 11) (v := ?_) (LN := #[true, true, true, true, true, true, true, true, true, true, true, true, false, false, false]) rfl (by kernel_rfl) (by kernel_rfl) (by kernel_rfl) (fun _ _ _ h => h) (by kernel_rfl) (by rfl) ?_ ?_
                          rotate_left
                          · intro w; first | (go_simp; done) | (go_simp; with_reducible rfl)
                          try simp only [Act.put, List.getElem_toArray, List.getElem_cons_zero, List.getElem_cons_succ, List.setIfInBounds_toArray, List.set_cons_zero, List.set_cons_succ]
                          refine wpAny_loc (i := 12) (v := ?_) (LN := #[true, true, true, true, true, true, true, true, true, true, true, true, true, false, false]) rfl (by kernel_rfl) (by kernel_rfl) (by kernel_rfl) (fun _ _ _ h => h) (by kernel_rfl) (by rfl) ?_ ?_
                          rotate_left
                          · intro w; first | (go_simp; done) | (go_simp; with_reducible rfl)
                          try simp only [Act.put, List.getElem_toArray, List.getElem_cons_zero, List.getElem_cons_succ, List.setIfInBounds_toArray, List.set_cons_zero, List.set_cons_succ]
                          refine wpAny_loc (i := 13) (v := ?_) (LN := #[true, true, true, true, true, true, true, true, true, true, true, true, true, true, false]) rfl (by kernel_rfl) (by kernel_rfl) (by kernel_rfl) (fun _ _ _ h => h) (by kernel_rfl) (by rfl) ?_ ?_
                          rotate_left
                          · intro w; first | (go_simp; done) | (go_simp; with_reducible rfl)
                          try simp only [Act.put, List.getElem_toArray, List.getElem_cons_zero, List.getElem_cons_succ, List.setIfInBounds_toArray, List.set_cons_zero, List.set_cons_succ]
                          refine wpAny_loc (i := 14) (v := ?_) (LN := #[true, true, true, true, true, true, true, true, true, true, true, true, true, true, true]) rfl (by kernel_rfl) (by kernel_rfl) (by kernel_rfl) (fun _ _ _ h => h) (by kernel_rfl) (by rfl) ?_ ?_
                          rotate_left
                          · intro w; first | (go_simp; done) | (go_simp; with_reducible rfl)
                          try simp only [Act.put, List.getElem_toArray, List.getElem_cons_zero, List.getElem_cons_succ, List.setIfInBounds_toArray, List.set_cons_zero, List.set_cons_succ]
                          refine ⟨by kernel_rfl, ?_⟩
                          try simp only [Act.put, List.getElem_toArray, List.getElem_cons_zero, List.getElem_cons_succ, List.setIfInBounds_toArray, List.set_cons_zero, List.set_cons_succ]
                          clear hb0 hp0 hp1 S12 S11
                          have hp0 := S13.cell 7 rfl 0
                          simp only [List.getElem?_cons_zero, List.getElem?_cons_succ] at hp0
                          go_wp2_with (first
                            | (at_builtin; (obtain ⟨hc, hcn, hcl, S14⟩ := brs_out (S13.sel [9]); obtain ⟨hr, hrn, hrl, S15⟩ := brs_out (S14.sel [2])); refine wpList_append_sat rfl (.tmp 140) (.tmp 141) _ rfl 29 i0 _ 1 24 Try.underlying25 hi hz0 hz1 hz2 rfl (by decide) (S15.sel [2]) rfl rfl S15.own_rd (by rw [List.length_map, hrl, Nat.mul_one]) (hv_one _) (by have := HLEN2.out; have := HGL.out; have := H60.out; unfold maxLen; omega) (by have := HLEN2.out; have := HGL.out; have := H60.out; omega) ?_; intro ca2 cc2 w16 S16; have S17 := brs_cat (n := cb.length) (m := rr.length) rfl rfl (S16.sel [0, 2, 1]); have hp8 := S17.cell 8 rfl 0; simp only [List.getElem?_cons_zero, List.getElem?_cons_succ] at hp8; have S18 := WAY_in rfl (S17.sel [5, 6]); have S19 := (BW2_open.2 ⟨wa', wc', S18.sel [5]⟩).sel [0, 2])
                            | (go_at_call 23; refine (out1_any S19 HSM.out (by have := HLEN2.out; omega) (by have := HOUT.out; omega)).mono ?_; rintro e w20 ⟨rfl, S20⟩))
                          have S21 := (S20.sel [1, 2, 3, 3]).tail.tail.tail.tail.sel [0, 2, 1]
                          rw [← List.length_append] at S21
                          exact ⟨⟨k + 1, sa, sb', _, cb ++ rr, ca2, cc2, by go_num, by rw [List.length_append], ⟨HE1.out.mono (by omega), by have := HMU1.out; have := HMK.out; omega, HM1.out⟩, by have := HOUT.out; omega, S21⟩, by have := HOUT.out; simp [intOf]; omega⟩
                        · obtain ⟨hE1, hm1, -⟩ := HI.out.hear0 (by have := HOUT.out; omega)
                          have hM1 := Mid.hear0 HI.out (by have := HOUT.out; omega) HMM.out
                          have hoka := HI.out.e.oka
                          have hsm := hoka.hearOut (by have := HOUT.out; omega) p
                          have hol := hear_outs_len (s := sa) (b := p)
                          have HHA := Lib.hid (fun (w' : World) (M : List Asn) (h : Sat w w' (PL p0 sa :: M)) (hR : ∀ w', Sat w w' M → Rd w' pa (bv p)) (hc : p.length ≤ pc) => hear_any h hoka (by have := HOUT.out; omega) hR rfl HPB.out.1 hc (by have := HPB.out.2; omega))
                          generalize hearP sa p = R at hE1 hm1 hM1 hsm hol HHA
                          obtain ⟨rr, oo, sa'⟩ := R
                          dsimp only at hE1 hm1 hM1 hsm hol
                          have HSM : Hid (∀ r ∈ oo, r.length ≤ 1000000) := fun r hr => by have := (hsm r hr).2; omega
                          have HE1 := Lib.hid hE1
                          have HM1 := Lib.hid hM1
                          have HMU1 := Lib.hid hm1
                          have HLEN2 := Lib.hid hol
                          clear hE1 hm1 hM1 hoka hsm hol
                          refine wp_region_drawn (N := 15) (LN := #[false, false, false, false, false, false, false, false, false, false, false, false, false, false, false]) (by kernel_rfl) (by kernel_rfl) (by kernel_rfl) ?_
                          have S12 := S11.drew
                          generalize w9.drew = w12 at S12 ⊢
                          have hb0 := S12.cell 0 rfl 0
                          have hp0 := S12.cell 4 rfl 0
                          have hp1 := S12.cell 4 rfl 1
                          simp only [List.getElem?_cons_zero, List.getElem?_cons_succ] at hb0 hp0 hp1
                          refine wpAny_seg 0 9 6 15 #[true, true, true, true, true, true, true, true, true, false, false, false, false, false, false] (by kernel_rfl) (by kernel_rfl) ?_
                          simp only [List.take_succ_cons, List.take_zero, List.drop_succ_cons, List.drop_zero]
                          refine wpStill_step (fun K hK => ?_); go_simp; refine hK _ ?_; clear hK K
                          try simp only [Act.put, List.getElem_toArray, List.getElem_cons_zero, List.getElem_cons_succ, List.setIfInBounds_toArray, List.set_cons_zero, List.set_cons_succ]
                          refine wpStill_step (fun K hK => ?_); go_simp; refine hK _ ?_; clear hK K
                          try simp only [Act.put, List.getElem_toArray, List.getElem_cons_zero, List.getElem_cons_succ, List.setIfInBounds_toArray, List.set_cons_zero, List.set_cons_succ]
                          refine wpStill_step (fun K hK => ?_); go_simp; refine hK _ ?_; clear hK K
                          try simp only [Act.put, List.getElem_toArray, List.getElem_cons_zero, List.getElem_cons_succ, List.setIfInBounds_toArray, List.set_cons_zero, List.set_cons_succ]
                          refine wpStill_step (fun K hK => ?_); go_simp; refine hK _ ?_; clear hK K
                          try simp only [Act.put, List.getElem_toArray, List.getElem_cons_zero, List.getElem_cons_succ, List.setIfInBounds_toArray, List.set_cons_zero, List.set_cons_succ]
                          refine wpStill_step (fun K hK => ?_); go_simp; refine hK _ ?_; clear hK K
                          try simp only [Act.put, List.getElem_toArray, List.getElem_cons_zero, List.getElem_cons_succ, List.setIfInBounds_toArray, List.set_cons_zero, List.set_cons_succ]
                          refine wpStill_step (fun K hK => ?_); go_simp; refine hK _ ?_; clear hK K
                          try simp only [Act.put, List.getElem_toArray, List.getElem_cons_zero, List.getElem_cons_succ, List.setIfInBounds_toArray, List.set_cons_zero, List.set_cons_succ]
                          refine wpStill_step (fun K hK => ?_); go_simp; refine hK _ ?_; clear hK K
                          try simp only [Act.put, List.getElem_toArray, List.getElem_cons_zero, List.getElem_cons_succ, List.setIfInBounds_toArray, List.set_cons_zero, List.set_cons_succ]
                          refine wpStill_step (fun K hK => ?_); go_simp; refine hK _ ?_; clear hK K
                          try simp only [Act.put, List.getElem_toArray, List.getElem_cons_zero, List.getElem_cons_succ, List.setIfInBounds_toArray, List.set_cons_zero, List.set_cons_succ]
                          refine wpStill_step (fun K hK => ?_); go_simp; refine hK _ ?_; clear hK K
                          try simp only [Act.put, List.getElem_toArray, List.getElem_cons_zero, List.getElem_cons_succ, List.setIfInBounds_toArray, List.set_cons_zero, List.set_cons_succ]
                          refine wpStill_nil ?_
                          refine wpAny_one (i := 9) (LN := #[true, true, true, true, true, true, true, true, true, true, false, false, false, false, false]) (by kernel_rfl) rfl (by kernel_rfl) ?_
                          intro K hK
                          go_simp
                          go_at_call 15
                          refine (HHA.out _ _ (S12.sel [5]) (fun w' h => (h.sel [2]).own_rd) (sbs_rd (S12.sel [2])).2.2.1).mono ?_
                          unfold HeardP
                          rintro e w13 ⟨ra, rc, oa, oc, rfl, S13⟩
                          dsimp only at S13 ⊢
                          go_wp2_with fail
                          refine hK.out _ _ ?_
                          clear hK K
                          try simp only [Act.put, List.getElem_toArray, List.getElem_cons_zero, List.getElem_cons_succ, List.setIfInBounds_toArray, List.set_cons_zero, List.set_cons_succ]
                          refine wpAny_loc (i := 10) (v := ?_) (LN := #[true, true, true, true, true, true, true, true, true, true, true, false, false, false, false]) rfl (by kernel_rfl) (by kernel_rfl) (by kernel_rfl) (fun _ _ _ h => h) (by kernel_rfl) (by rfl) ?_ ?_
                          rotate_left
                          · intro w; first | (go_simp; done) | (go_simp; with_reducible rfl)
                          try simp only [Act.put, List.getElem_toArray, List.getElem_cons_zero, List.getElem_cons_succ, List.setIfInBounds_toArray, List.set_cons_zero, List.set_cons_succ]
                          refine wpAny_loc (i := 11) (v := ?_) (LN := #[true, true, true, true, true, true, true, true, true, true, true, true, false, false, false]) rfl (by kernel_rfl) (by kernel_rfl) (by kernel_rfl) (fun _ _ _ h => h) (by kernel_rfl) (by rfl) ?_ ?_
                          rotate_left
                          · intro w; first | (go_simp; done) | (go_simp; with_reducible rfl)
                          try simp only [Act.put, List.getElem_toArray, List.getElem_cons_zero, List.getElem_cons_succ, List.setIfInBounds_toArray, List.set_cons_zero, List.set_cons_succ]
                          refine wpAny_loc (i := 12) (v := ?_) (LN := #[true, true, true, true, true, true, true, true, true, true, true, true, true, false, false]) rfl (by kernel_rfl) (by kernel_rfl) (by kernel_rfl) (fun _ _ _ h => h) (by kernel_rfl) (by rfl) ?_ ?_
                          rotate_left
                          · intro w; first | (go_simp; done) | (go_simp; with_reducible rfl)
                          try simp only [Act.put, List.getElem_toArray, List.getElem_cons_zero, List.getElem_cons_succ, List.setIfInBounds_toArray, List.set_cons_zero, List.set_cons_succ]
                          refine wpAny_loc (i := 13) (v := ?_) (LN := #[true, true, true, true, true, true, true, true, true, true, true, true, true, true, false]) rfl (by kernel_rfl) (by kernel_rfl) (by kernel_rfl) (fun _ _ _ h => h) (by kernel_rfl) (by rfl) ?_ ?_
                          rotate_left
                          · intro w; first | (go_simp; done) | (go_simp; with_reducible rfl)
                          try simp only [Act.put, List.getElem_toArray, List.getElem_cons_zero, List.getElem_cons_succ, List.setIfInBounds_toArray, List.set_cons_zero, List.set_cons_succ]
                          refine wpAny_loc (i := 14) (v := ?_) (LN := #[true, true, true, true, true, true, true, true, true, true, true, true, true, true, true]) rfl (by kernel_rfl) (by kernel_rfl) (by kernel_rfl) (fun _ _ _ h => h) (by kernel_rfl) (by rfl) ?_ ?_
                          rotate_left
                          · intro w; first | (go_simp; done) | (go_simp; with_reducible rfl)
                          try simp only [Act.put, List.getElem_toArray, List.getElem_cons_zero, List.getElem_cons_succ, List.setIfInBounds_toArray, List.set_cons_zero, List.set_cons_succ]
                          refine ⟨by kernel_rfl, ?_⟩
                          try simp only [Act.put, List.getElem_toArray, List.getElem_cons_zero, List.getElem_cons_succ, List.setIfInBounds_toArray, List.set_cons_zero, List.set_cons_succ]
                          clear hb0 hp0 hp1 S12 S11
                          have hp0 := S13.cell 7 rfl 0
                          simp only [List.getElem?_cons_zero, List.getElem?_cons_succ] at hp0
                          have S18 := WAY_in rfl (S13.sel [4, 5])
                          have S19 := (BW2_open.2 ⟨wa', wc', S18.sel [4]⟩).sel [0, 1]
                          go_wp2_with (first
                            | (go_at_call 23; refine (out0_any S19 HSM.out (by have := HLEN2.out; omega) (by have := HOUT.out; omega)).mono ?_; rintro e w20 ⟨rfl, S20⟩))
                          have S21 := (S20.sel [1, 1, 2, 2]).tail.tail.tail.tail
                          exact ⟨⟨k + 1, sa', sb, _, cb, ca, cc, by go_num, rfl, ⟨HE1.out.mono (by omega), by have := HMU1.out; have := HMK.out; omega, HM1.out⟩, by have := HOUT.out; omega, S21⟩, by have := HOUT.out; simp [intOf]; omega⟩
              · by_cases hzb : 60 < zn
                · have hd8 : decide ((60 : Int) < (zn : Int)) = true := decide_eq_true (by omega)
                  by_cases htt1 : t < T2
                  · have hd1 : decide ((t : Int) < (T2 : Int)) = true := decide_eq_true (by omega)
                    have hd2 : decide ((t : Int) < 600) = false := decide_eq_false (by omega)
                    go_wp2_with (first | (go_at_call 12; refine (known_any S4).mono ?_; rintro e w8 ⟨rfl, S8⟩))
                    go_ret
                    exact ⟨rfl, S8.below⟩
                  · have hd1 : decide ((t : Int) < (T2 : Int)) = false := decide_eq_false (by omega)
                    go_wp2_with (first | (go_at_call 12; refine (known_any S4).mono ?_; rintro e w8 ⟨rfl, S8⟩))
                    go_ret
                    exact ⟨rfl, S8.below⟩
                · have hd8 : decide ((60 : Int) < (zn : Int)) = false := decide_eq_false (by omega)
                  have hT := HT2.out
                  obtain rfl : t = T2 := by omega
                  have hd1 : decide ((t : Int) < (t : Int)) = false := decide_eq_false (by omega)
                  obtain ⟨hsr, hcb⟩ := (show Near 0 _ _ _ _ _ from by have := HI0.out.2.2; rwa [show zn + 7 - t = 0 by omega] at this).done
                  subst hcb
                  have hgl := HGL.out
                  have hbr := (brs_rows (S4.sel [3])).1
                  have hlr := HL.out.rows S4.below
                  have hsr0 : (sa.rows.length : Int) = 0 := by rw [hsr]; rfl
                  have hrl : ∀ r ∈ gr xs, r.length ≤ 1000000000 := by
                    intro r hr
                    unfold gr at hr
                    obtain ⟨y, hy, rfl⟩ := List.mem_map.1 hr
                    obtain ⟨i, hi⟩ := List.getElem?_of_mem hy
                    have := totL_mem hi
                    have := HALL.out
                    obtain ⟨b, off, _, _, hrow⟩ := HL.out.row i y hi
                    have := hrow.len
                    omega
                  go_wp2_with (first
                    | (go_at_call 19; refine (rows_any hbr hlr hgl hrl (by have := H60.out; unfold maxLen; omega)).mono ?_; rintro e w8 ⟨rfl, nq, rfl⟩; have S8 := S4.drewN nq; obtain ⟨wa, wc, S8⟩ := BW2_open.1 S8; have hcy := S8.cell 0 rfl 0; simp only [List.getElem?_cons_zero, List.getElem?_cons_succ] at hcy)
                    | (go_at_call 16; refine (left_any (S8.sel [2])).mono ?_; rintro e w9 ⟨rfl, S9⟩)
                    | (go_at_call 12; refine (known_any S9).mono ?_; rintro e w10 ⟨rfl, S10⟩))
                  go_ret
                  exact ⟨rfl, S10.below⟩
end Go.Proofs.Ytdgalljalcediaa
end
