/-
  LiE, LiE2, LiO, LiB4, LiG, LiJ, LiF, LiLwOrder in one text (wip/tools/joint.py)
-/
import Derived.Test.YtdgalljalcediaaLiQ
import Derived.Test.YtdgalljalcediaaLiV
import Derived.Test.YtdgalljalcediaaLiB2
import Derived.Test.YtdgalljalcediaaLiI
import Derived.Test.YtdgalljalcediaaLi2
import Derived.Test.YtdgalljalcediaaLaw0
import Derived.Test.YtdgalljalcediaaLiK
import Derived.Test.YtdgalljalcediaaLi5

section
namespace Go.Oct
open Go.RowKit

def pn (p : List Int) : Int := (lparts (openF p).1).n
def pa (p : List Int) : Int := (lparts (openF p).1).ack
theorem pn_pack {id n came : Int} {row : List Int} (h1 : I64 id) (h2 : I64 n) (h3 : I64 came) (hl : row.length ≤ 4096) (h0 : n ≤ 0 → row = []) : pn (packP id n came row) = n ∧ pa (packP id n came row) = came := by
  unfold pn pa
  rw [openF_pack (by omega)]
  dsimp only
  rw [lparts_pack h1 h2 h3 (by omega) h0]
  exact ⟨rfl, rfl⟩
def run : Int → List Int → Int
  | c, [] => c
  | c, n :: l => run (if n = c + 1 then c + 1 else c) l
theorem run_append : ∀ (l m : List Int) (c : Int), run c (l ++ m) = run (run c l) m
  | [], m, c => rfl
  | n :: l, m, c => by simp only [List.cons_append, run]; exact run_append l m _
theorem run_range : ∀ (u : Nat) (f c : Int), f - 1 ≤ c → c ≤ f + u - 1 → run c ((List.range u).map fun j : Nat => f + j) = f + u - 1
  | 0, f, c, h1, h2 => by simp only [List.range_zero, List.map_nil, run]; omega
  | u + 1, f, c, h1, h2 => by
    rw [List.range_succ_eq_map, List.map_cons, List.map_map]
    simp only [run]
    have e : ((List.range u).map ((fun j : Nat => f + (j : Int)) ∘ Nat.succ)) = (List.range u).map fun j : Nat => (f + 1) + (j : Int) := by
      apply List.map_congr_left
      intro j _
      show f + ((j + 1 : Nat) : Int) = _
      omega
    rw [e]
    by_cases h : f = c + 1
    · simp only [Int.natCast_zero, Int.add_zero]; rw [if_pos h, run_range u (f + 1) (c + 1) (by omega) (by omega)]; omega
    · simp only [Int.natCast_zero, Int.add_zero]; rw [if_neg h, run_range u (f + 1) c (by omega) (by omega)]; omega
def to1 (way : List (Int × List Int)) : List Int := (way.filter fun p => p.1 = 1).map fun p => pn p.2
theorem to1_append (a b : List (Int × List Int)) : to1 (a ++ b) = to1 a ++ to1 b := by simp [to1]
theorem to1_cons1 (p : List Int) (way : List (Int × List Int)) : to1 ((1, p) :: way) = pn p :: to1 way := by simp [to1]
theorem to1_cons0 (p : List Int) (way : List (Int × List Int)) : to1 ((0, p) :: way) = to1 way := by simp [to1]
theorem to1_map1 (l : List (List Int)) : to1 (l.map fun x => ((1 : Int), x)) = l.map pn := by
  induction l with
  | nil => rfl
  | cons x r ih => rw [List.map_cons, to1_cons1, ih, List.map_cons]
theorem to1_map0 (l : List (List Int)) : to1 (l.map fun x => ((0 : Int), x)) = [] := by
  induction l with
  | nil => rfl
  | cons x r ih => rw [List.map_cons, to1_cons0, ih]
def wt (way : List (Int × List Int)) : Nat := (way.map fun p => if p.1 = 1 then 2 else 1).sum
theorem wt_append (a b : List (Int × List Int)) : wt (a ++ b) = wt a + wt b := by simp [wt]
theorem wt_cons (p : Int × List Int) (way : List (Int × List Int)) : wt (p :: way) = (if p.1 = 1 then 2 else 1) + wt way := by simp [wt]
theorem wt_map1 (l : List (List Int)) : wt (l.map fun x => ((1 : Int), x)) = 2 * l.length := by
  induction l with
  | nil => rfl
  | cons x r ih => rw [List.map_cons, wt_cons, ih, List.length_cons, if_pos rfl]; omega
theorem wt_map0 (l : List (List Int)) : wt (l.map fun x => ((0 : Int), x)) = l.length := by
  induction l with
  | nil => rfl
  | cons x r ih => rw [List.map_cons, wt_cons, ih, List.length_cons, if_neg (by simp)]; omega
def mu (G : List (List Int)) (a : LS) (way : List (Int × List Int)) : Nat := wt way + 2 * (G.length + 1 - (a.first + a.under)).toNat
structure EInv (id N : Int) (G : List (List Int)) (a b : LS) (cb : List (List Int)) (way : List (Int × List Int)) : Prop where
  e : Ends2 id N G [] a b G.length 0 [] cb
  w : Way2 id G [] a b way
  full : a.under = min a.rows.length 16
def JJ (a b : LS) (way : List (Int × List Int)) : Prop :=
  run b.came (to1 way) = a.first + a.under - 1 ∧ (b.came < a.first ∨ (∃ p ∈ way, p.1 = 1 ∧ 0 < pn p.2) ∨ ∃ p ∈ way, p.1 = 0 ∧ pa p.2 = b.came)
theorem fill_full (s : LS) (h : s.under ≤ s.rows.length) (h16 : s.under ≤ 16) : (fillP s).2.under = min (fillP s).2.rows.length 16 := by
  show s.under + s.room = min s.rows.length 16
  unfold LS.room
  omega
theorem none_rows {id N : Int} {G : List (List Int)} {a b : LS} {cb : List (List Int)} {k : Nat} (h : Ends2 id N G [] a b k 0 [] cb) : b.rows = [] ∧ b.under = 0 ∧ b.first = 1 ∧ a.came = 0 := by
  have h1 := h.fb.rows
  have h2 := h.fb.ul
  have h3 := h.fb.fk
  have h4 := h.fb.f1
  have h5 := h.fb.hi
  have h6 := h.oka.c0
  simp only [List.take_nil, List.drop_nil] at h1
  rw [h1] at h2
  simp only [List.length_nil] at h2
  exact ⟨h1, by omega, by omega, by omega⟩
theorem EInv.first {id N : Int} {G : List (List Int)} {a b : LS} {cb : List (List Int)} {way : List (Int × List Int)} (h : EInv id N G a b cb way) : a.first + a.under - 1 ≤ G.length := h.e.fa.under_k
/-- a packet comes to the end that gets the rows -/
theorem EInv.hear1 {id N : Int} {G : List (List Int)} {a b : LS} {cb : List (List Int)} {p : List Int} {way : List (Int × List Int)} (h : EInv id N G a b cb ((1, p) :: way)) (hN : N ≤ 900000000000) :
    EInv id (N + 40) G a (hearP b p).2.2 (cb ++ (hearP b p).1) (way ++ (hearP b p).2.1.map fun x => ((0 : Int), x)) ∧ mu G a (way ++ (hearP b p).2.1.map fun x => ((0 : Int), x)) < mu G a ((1, p) :: way) ∧
      (JJ a b ((1, p) :: way) → JJ a (hearP b p).2.2 (way ++ (hearP b p).2.1.map fun x => ((0 : Int), x))) := by
  have hp : Pkt id G a p := by
    rcases h.w (1, p) (by simp) with ⟨-, x⟩ | ⟨x, -⟩
    · exact x
    · cases x
  obtain ⟨E, P, f, c⟩ := h.e.hear (by omega) hp
  have W := h.w
  obtain ⟨n, ack, row, rfl, hn, hn2, hr0, hr, ha, ha2⟩ := hp
  have hc := hear_cases h.e (by omega) hn hn2 hr0 hr ha ha2
  obtain ⟨bz, bu, bf, ac⟩ := none_rows h.e
  obtain ⟨q, hq⟩ : ∃ q : LP, (⟨id, n, ack, row, 0⟩ : LP) = q := ⟨_, rfl⟩
  rw [hq] at hc
  have q1 : q.n = n := by rw [← hq]
  have hca := gotP_came (s := b) (q := q)
  rw [q1] at hca
  have hg := h.e.okb.got q
  have hgr : (gotP b q).rows = [] := by
    obtain ⟨-, g2, -⟩ := gotP_first (s := b) (q := q)
    rw [g2, bu]
    exact bz
  have hz : (fillP (gotP b q)).1 = [] := by
    show outP _ _ = []
    have : (gotP b q).room = 0 := by unfold LS.room; rw [hgr]; simp
    rw [this]; rfl
  have hu := h.e.fa.under_k
  have hkl := h.e.fa.kl
  have hrl : row.length ≤ 4096 := by
    rcases Int.lt_or_le 0 n with h0 | h0
    · refine (h.e.sa row ?_).2
      have e := hr h0
      refine List.mem_of_getElem? (i := (n - 1).toNat) ?_
      rw [List.getElem?_take, if_pos (by omega), e]
    · rw [hr0 h0]; simp
  have hid : I64 id := by rw [← h.e.ida]; exact h.e.oka.id
  have hnI : I64 n := by have := h.e.oka.fN; have := h.e.oka.u16; unfold I64; omega
  have hac : I64 ack := by have := h.e.oka.cN; unfold I64; omega
  have hpn := (pn_pack hid hnI hac hrl hr0).1
  have hcI : I64 (gotP b q).came := by have := hg.c0; have := hg.cN; unfold I64; omega
  have hpa := (pn_pack hid (n := 0) (came := (gotP b q).came) (row := []) (by unfold I64; omega) hcI (by simp) (fun _ => rfl)).2
  rw [hz] at hc
  rw [hc] at E P f c ⊢
  have HW : Way2 id G [] a b way := W.sub (fun p hp => by simp [hp])
  by_cases h0 : 0 < n
  · have hcond : (0 < n ∧ ([] : List (List Int)) = []) := ⟨h0, rfl⟩
    rw [if_pos hcond] at E P f c ⊢
    refine ⟨⟨E, (HW.right f c).add0 P, h.full⟩, ?_, ?_⟩
    · unfold mu
      rw [wt_append, wt_map0, wt_cons, if_pos rfl]
      simp only [List.length_singleton]; omega
    · rintro ⟨j1, j2⟩
      rw [to1_cons1, hpn] at j1
      refine ⟨?_, .inr (.inr ⟨(0, packP id 0 (gotP b q).came []), by simp, rfl, hpa⟩)⟩
      rw [to1_append, to1_map0, List.append_nil, ← j1]
      show run (gotP b q).came _ = run (if n = b.came + 1 then b.came + 1 else b.came) _
      rw [hca]
      by_cases e : n = b.came + 1
      · rw [if_pos ⟨by omega, e⟩, if_pos e]
      · rw [if_neg (fun x => e x.2), if_neg e]
  · have hcond : ¬ (0 < n ∧ ([] : List (List Int)) = []) := fun x => h0 x.1
    rw [if_neg hcond] at E P f c ⊢
    refine ⟨⟨E, (HW.right f c).add0 P, h.full⟩, ?_, ?_⟩
    · unfold mu
      rw [wt_append, wt_map0, wt_cons, if_pos rfl]
      simp only [List.length_nil]; omega
    · rintro ⟨j1, j2⟩
      rw [to1_cons1, hpn] at j1
      have c0 := h.e.okb.c0
      have e1 : (gotP b q).came = b.came := by rw [hca, if_neg (fun x => x.1 (by omega))]
      refine ⟨?_, ?_⟩
      · rw [to1_append, to1_map0, List.append_nil, ← j1]
        show run (gotP b q).came _ = run (if n = b.came + 1 then b.came + 1 else b.came) _
        rw [e1, if_neg (by omega)]
      · show (gotP b q).came < _ ∨ _ ∨ ∃ p ∈ _, _ ∧ _ = (gotP b q).came
        rw [e1]
        rcases j2 with j | ⟨x, hx, x1, x2⟩ | ⟨x, hx, x1, x2⟩
        · exact .inl j
        · refine .inr (.inl ⟨x, ?_, x1, x2⟩)
          rcases List.mem_cons.1 hx with rfl | hx
          · simp only at x2; rw [hpn] at x2; omega
          · simp [hx]
        · refine .inr (.inr ⟨x, ?_, x1, x2⟩)
          rcases List.mem_cons.1 hx with rfl | hx
          · cases x1
          · simp [hx]
/-- a packet comes to the end that has rows go out -/
theorem EInv.hear0 {id N : Int} {G : List (List Int)} {a b : LS} {cb : List (List Int)} {p : List Int} {way : List (Int × List Int)} (h : EInv id N G a b cb ((0, p) :: way)) (hN : N ≤ 900000000000) :
    EInv id (N + 40) G (hearP a p).2.2 b cb (way ++ (hearP a p).2.1.map fun x => ((1 : Int), x)) ∧ mu G (hearP a p).2.2 (way ++ (hearP a p).2.1.map fun x => ((1 : Int), x)) < mu G a ((0, p) :: way) ∧
      (JJ a b ((0, p) :: way) → JJ (hearP a p).2.2 b (way ++ (hearP a p).2.1.map fun x => ((1 : Int), x))) := by
  have hp : Pkt id [] b p := by
    rcases h.w (0, p) (by simp) with ⟨x, -⟩ | ⟨-, x⟩
    · cases x
    · exact x
  obtain ⟨E, P, f, c⟩ := h.e.swap.hear (by omega) hp
  have W := h.w
  obtain ⟨bz, bu, bf, ac⟩ := none_rows h.e
  obtain ⟨n, ack, row, rfl, hn, hn2, hr0, hr, ha, ha2⟩ := hp
  obtain rfl : n = 0 := by omega
  obtain rfl : row = [] := hr0 (Int.le_refl _)
  have hc := hear_cases h.e.swap (by omega) hn hn2 hr0 hr ha ha2
  obtain ⟨q, hq⟩ : ∃ q : LP, (⟨id, 0, ack, [], 0⟩ : LP) = q := ⟨_, rfl⟩
  rw [hq] at hc
  have q1 : q.n = 0 := by rw [← hq]
  have q2 : q.ack = ack := by rw [← hq]
  rw [if_neg (fun x => by omega)] at hc
  have hca := gotP_came (s := a) (q := q)
  rw [q1, if_neg (fun x => x.1 rfl)] at hca
  have hg := h.e.oka.got q
  obtain ⟨g1, g2, g3, g4, -⟩ := gotP_first (s := a) (q := q)
  rw [q2] at g1 g2 g3
  obtain ⟨f1, f2, f3, f4⟩ := h.e.fa.acks ha2
  rw [hc] at E P f c ⊢
  have HW : Way2 id G [] a b way := W.sub (fun p hp => by simp [hp])
  have hid : I64 id := by rw [← h.e.ida]; exact h.e.oka.id
  have hac : I64 ack := by have := h.e.okb.cN; unfold I64; omega
  have hpa := (pn_pack hid (n := 0) (came := ack) (row := []) (by unfold I64; omega) hac (by simp) (fun _ => rfl)).2
  have EE := E.swap
  have hroom : (fillP (gotP a q)).2.first + ((fillP (gotP a q)).2.under : Int) = a.first + a.under + (gotP a q).room := by
    show (gotP a q).first + (((gotP a q).under + (gotP a q).room : Nat) : Int) = _
    rw [g1, g3]; omega
  have hlen : (fillP (gotP a q)).1.length = (gotP a q).room := outP_length _ _
  refine ⟨⟨?_, (HW.left f c).add1 P, fill_full _ hg.ul hg.u16⟩, ?_, ?_⟩
  · have e0 : newRows a q = [] := by rw [newRows_eq, q1, if_neg (fun x => x.1 rfl)]
    rw [e0] at EE
    exact EE
  · have hk := h.first
    have hk2 := EE.fa.under_k
    dsimp only at hk2
    unfold mu
    rw [wt_append, wt_map1, wt_cons, if_neg (by simp), hlen, hroom]
    rw [hroom] at hk2
    omega
  · rintro ⟨j1, j2⟩
    rw [to1_cons0] at j1
    refine ⟨?_, ?_⟩
    · rw [to1_append, to1_map1, run_append, j1, hroom]
      have e1 : (fillP (gotP a q)).1.map pn = (List.range (gotP a q).room).map fun j : Nat => (a.first + a.under) + (j : Int) := by
        show (outP _ _).map pn = _
        unfold outP
        rw [List.map_map]
        apply List.map_congr_left
        intro j hj
        have hj' := List.mem_range.1 hj
        have hr16 := (gotP a q).room_le
        have hu16 := hg.u16
        have hf1 := hg.f1
        have hfN := hg.fN
        obtain ⟨-, hL⟩ := getD_row hg ((gotP a q).under + j)
        have := (pn_pack (id := (gotP a q).id) (n := (gotP a q).first + ((gotP a q).under : Int) + (j : Int)) (came := (gotP a q).came) (row := (gotP a q).rows[(gotP a q).under + j]?.getD []) hg.id (by unfold I64; omega) (hg.i64 (by omega)) hL (fun h => absurd h (by omega))).1
        show pn (packP _ _ _ _) = _
        rw [this, g1, g3]; omega
      rw [e1, run_range _ _ _ (by omega) (by omega)]
    · show b.came < (gotP a q).first ∨ _
      rw [g1]
      have hfle : a.first ≤ (ackP ack a.under a).first := by
        obtain ⟨d, d1, d2, d3, -⟩ := ackP_gone (ack := ack) a.under a rfl h.e.fa.ul
        rw [d3]; omega
      rcases j2 with j | ⟨x, hx, x1, x2⟩ | ⟨x, hx, x1, x2⟩
      · exact .inl (by omega)
      · refine .inr (.inl ⟨x, ?_, x1, x2⟩)
        rcases List.mem_cons.1 hx with rfl | hx
        · cases x1
        · simp [hx]
      · rcases List.mem_cons.1 hx with rfl | hx
        · refine .inl (f4 ?_)
          simp only at x2; rw [hpa] at x2; exact x2
        · exact .inr (.inr ⟨x, by simp [hx], x1, x2⟩)
theorem EInv.lose {id N : Int} {G : List (List Int)} {a b : LS} {cb : List (List Int)} {p : Int × List Int} {way : List (Int × List Int)} (h : EInv id N G a b cb (p :: way)) : EInv id N G a b cb way ∧ mu G a way < mu G a (p :: way) := by
  refine ⟨⟨h.e, h.w.sub (fun p hp => by simp [hp]), h.full⟩, ?_⟩
  unfold mu
  rw [wt_cons]
  split <;> omega
def Done (G : List (List Int)) (a : LS) (cb : List (List Int)) (way : List (Int × List Int)) : Prop := way = [] ∧ a.rows = [] ∧ cb = G
theorem EInv.done {id N : Int} {G : List (List Int)} {a b : LS} {cb : List (List Int)} (h : EInv id N G a b cb []) (hu : a.under = 0) : Done G a cb [] := by
  have h1 := h.full
  have h2 : a.rows = [] := List.eq_nil_of_length_eq_zero (by omega)
  refine ⟨rfl, h2, ?_⟩
  have h3 := h.e.fa.rows
  have h4 := h.e.fa.lo
  rw [h2, List.take_length] at h3
  have h5 := congrArg List.length h3
  rw [List.length_drop, List.length_nil] at h5
  rw [h.e.fa.came, List.take_of_length_le (by omega)]
theorem JJ.done {id N : Int} {G : List (List Int)} {a b : LS} {cb : List (List Int)} (h : EInv id N G a b cb []) (j : JJ a b []) : Done G a cb [] := by
  obtain ⟨j1, j2⟩ := j
  simp only [to1, List.filter_nil, List.map_nil, run] at j1
  refine h.done ?_
  rcases j2 with j | ⟨x, hx, _⟩ | ⟨x, hx, _⟩
  · omega
  · simp at hx
  · simp at hx
/-- how far it is from the end, in rounds without a loss -/
def Near (d : Nat) (G : List (List Int)) (a b : LS) (cb : List (List Int)) (way : List (Int × List Int)) : Prop :=
  Done G a cb way ∨ (1 ≤ d ∧ JJ a b way) ∨ (2 ≤ d ∧ way = [] ∧ 0 < a.under ∧ 6 ≤ a.waited + d) ∨ 7 ≤ d
/-- while a round is under way: the packets that are left -/
def Mid (d : Nat) (G : List (List Int)) (a b : LS) (cb : List (List Int)) (way : List (Int × List Int)) : Prop :=
  Done G a cb way ∨ (1 ≤ d ∧ JJ a b way) ∨ (2 ≤ d ∧ way = [] ∧ 0 < a.under ∧ 6 ≤ a.waited + d) ∨ 7 ≤ d
theorem Near.mid {d : Nat} {G : List (List Int)} {a b : LS} {cb : List (List Int)} {way : List (Int × List Int)} (h : Near d G a b cb way) : Mid d G a b cb way := h
theorem Mid.hear1 {d : Nat} {id N : Int} {G : List (List Int)} {a b : LS} {cb : List (List Int)} {p : List Int} {way : List (Int × List Int)} (h : EInv id N G a b cb ((1, p) :: way)) (hN : N ≤ 900000000000) (m : Mid d G a b cb ((1, p) :: way)) :
    Mid d G a (hearP b p).2.2 (cb ++ (hearP b p).1) (way ++ (hearP b p).2.1.map fun x => ((0 : Int), x)) := by
  rcases m with ⟨h0, -⟩ | ⟨h1, j⟩ | ⟨-, h0, -⟩ | h1
  · cases h0
  · exact .inr (.inl ⟨h1, (h.hear1 hN).2.2 j⟩)
  · cases h0
  · exact .inr (.inr (.inr h1))
theorem Mid.hear0 {d : Nat} {id N : Int} {G : List (List Int)} {a b : LS} {cb : List (List Int)} {p : List Int} {way : List (Int × List Int)} (h : EInv id N G a b cb ((0, p) :: way)) (hN : N ≤ 900000000000) (m : Mid d G a b cb ((0, p) :: way)) :
    Mid d G (hearP a p).2.2 b cb (way ++ (hearP a p).2.1.map fun x => ((1 : Int), x)) := by
  rcases m with ⟨h0, -⟩ | ⟨h1, j⟩ | ⟨-, h0, -⟩ | h1
  · cases h0
  · exact .inr (.inl ⟨h1, (h.hear0 hN).2.2 j⟩)
  · cases h0
  · exact .inr (.inr (.inr h1))
theorem tick_b {id N : Int} {G : List (List Int)} {a b : LS} {cb : List (List Int)} {k : Nat} (h : Ends2 id N G [] a b k 0 [] cb) : tickP b = ([], { b with waited := 0 }) := by
  unfold tickP
  rw [if_pos (none_rows h).2.1]
theorem EInv.tickB {id N : Int} {G : List (List Int)} {a b : LS} {cb : List (List Int)} {way : List (Int × List Int)} (h : EInv id N G a b cb way) : EInv id (N + 40) G a (tickP b).2 cb way := by
  obtain ⟨E, -, f, c⟩ := h.e.swap.tick
  exact ⟨E.swap, h.w.right f c, h.full⟩
theorem EInv.tickA {id N : Int} {G : List (List Int)} {a b : LS} {cb : List (List Int)} (h : EInv id N G a b cb []) : EInv id (N + 40) G (tickP a).2 b cb ((tickP a).1.map fun x => ((1 : Int), x)) := by
  obtain ⟨E, P, f, c⟩ := h.e.tick
  refine ⟨E, ?_, ?_⟩
  · have := (h.w.left f c).add1 P
    rwa [List.nil_append] at this
  · unfold tickP
    split
    · exact h.full
    · split <;> exact h.full
theorem tickA_mu {id N : Int} {G : List (List Int)} {a b : LS} {cb : List (List Int)} (h : EInv id N G a b cb []) (h60 : G.length ≤ 60) : mu G (tickP a).2 ((tickP a).1.map fun x => ((1 : Int), x)) ≤ 160 := by
  have h1 := h.e.oka.f1
  have h2 := h.e.oka.u16
  unfold mu
  rw [wt_map1]
  have e : (tickP a).2.first = a.first ∧ (tickP a).1.length ≤ a.under := by
    unfold tickP
    split
    · exact ⟨rfl, by simp⟩
    · split
      · exact ⟨rfl, by simp⟩
      · exact ⟨rfl, by simp⟩
  omega
/-- the Tick behind a round in which nothing was lost -/
theorem Near.next {d : Nat} {id N : Int} {G : List (List Int)} {a b : LS} {cb : List (List Int)} (h : EInv id N G a b cb []) (hN : N ≤ 900000000000) (m : Mid d G a b cb []) :
    Near (d - 1) G (tickP a).2 (tickP b).2 cb ((tickP a).1.map fun x => ((1 : Int), x)) := by
  have hb : (tickP b).2.came = b.came := by rw [tick_b h.e]
  have dn : Done G a cb [] → Near (d - 1) G (tickP a).2 (tickP b).2 cb ((tickP a).1.map fun x => ((1 : Int), x)) := by
    rintro ⟨-, h2, h3⟩
    have h4 := h.full
    rw [h2] at h4
    have h5 : a.under = 0 := by simpa using h4
    left
    unfold tickP
    rw [if_pos h5]
    exact ⟨rfl, h2, h3⟩
  by_cases hd : Done G a cb []
  · exact dn hd
  by_cases hu : a.under = 0
  · exact dn (h.done hu)
  have hw0 := h.e.oka.w0
  have hw5 := h.e.oka.w5
  by_cases hw : a.waited + 1 < 5
  · have e : tickP a = ([], { a with waited := a.waited + 1 }) := by unfold tickP; rw [if_neg hu, if_pos hw]
    rw [e]
    rcases m with x | ⟨h1, j⟩ | ⟨h1, -, h2, h3⟩ | h1
    · exact absurd x hd
    · exact absurd (JJ.done h j) hd
    · refine .inr (.inr (.inl ⟨by omega, rfl, h2, ?_⟩))
      show 6 ≤ a.waited + 1 + ((d - 1 : Nat) : Int); omega
    · refine .inr (.inr (.inl ⟨by omega, rfl, by show 0 < a.under; omega, ?_⟩))
      show 6 ≤ a.waited + 1 + ((d - 1 : Nat) : Int); omega
  · have e : tickP a = ((List.range a.under).map fun j : Nat => packP a.id (a.first + j) a.came (a.rows[j]?.getD []), { a with waited := 0, sent := a.sent + a.under }) := by unfold tickP; rw [if_neg hu, if_neg hw]
    have hd1 : 1 ≤ d - 1 := by
      rcases m with x | ⟨h1, j⟩ | ⟨h1, -, h2, h3⟩ | h1
      · exact absurd x hd
      · exact absurd (JJ.done h j) hd
      · omega
      · omega
    refine .inr (.inl ⟨hd1, ?_⟩)
    have hpn : ∀ j : Nat, j < a.under → pn (packP a.id (a.first + j) a.came (a.rows[j]?.getD [])) = a.first + j := by
      intro j hj
      obtain ⟨-, hL⟩ := getD_row h.e.oka j
      have h1 := h.e.oka.f1; have h2 := h.e.oka.fN; have h3 := h.e.oka.u16
      exact (pn_pack h.e.oka.id (by unfold I64; omega) (h.e.oka.i64 (by omega)) hL (fun h => absurd h (by omega))).1
    rw [e]
    refine ⟨?_, ?_⟩
    · rw [hb, to1_map1]
      have e1 : ((List.range a.under).map fun j : Nat => packP a.id (a.first + j) a.came (a.rows[j]?.getD [])).map pn = (List.range a.under).map fun j : Nat => a.first + (j : Int) := by
        rw [List.map_map]
        apply List.map_congr_left
        intro j hj
        exact hpn j (List.mem_range.1 hj)
      show run _ (List.map pn ((List.range a.under).map fun j : Nat => packP a.id (a.first + j) a.came (a.rows[j]?.getD []))) = a.first + (a.under : Int) - 1
      rw [e1, run_range _ _ _ (by have := h.e.fa.lo; omega) (h.e.fa.hi)]
    · refine .inr (.inl ⟨(1, packP a.id (a.first + (0 : Nat)) a.came (a.rows[0]?.getD [])), ?_, rfl, ?_⟩)
      · refine List.mem_map.2 ⟨_, List.mem_map.2 ⟨0, List.mem_range.2 (by omega), rfl⟩, rfl⟩
      · have := hpn 0 (by omega)
        have h1 := h.e.oka.f1
        show 0 < pn _
        rw [this]; omega
theorem Near.mono {d d' : Nat} {G : List (List Int)} {a b : LS} {cb : List (List Int)} {way : List (Int × List Int)} (h : Near d G a b cb way) (hd : d ≤ d') : Near d' G a b cb way := by
  rcases h with x | ⟨h1, j⟩ | ⟨h1, h2, h3, h4⟩ | h1
  · exact .inl x
  · exact .inr (.inl ⟨by omega, j⟩)
  · exact .inr (.inr (.inl ⟨by omega, h2, h3, by omega⟩))
  · exact .inr (.inr (.inr (by omega)))
end Go.Oct
end

section
namespace Go.Oct
open Go.RowKit

theorem pkt_small {id N : Int} {Ga Gb : List (List Int)} {a b : LS} {ka kb : Nat} {ca cb : List (List Int)} (h : Ends2 id N Ga Gb a b ka kb ca cb) (hN : N ≤ 1000000000000) {p : List Int} (hp : Pkt id Ga a p) : Bytes p ∧ p.length ≤ 5000 := by
  obtain ⟨n, ack, row, rfl, hn, hn2, hr0, hr, ha, ha2⟩ := hp
  have hu := h.fa.under_k
  have hkl := h.fa.kl
  have hrow : Bytes row ∧ row.length ≤ 4096 := by
    rcases Int.lt_or_le 0 n with h0 | h0
    · refine h.sa row ?_
      have e := hr h0
      refine List.mem_of_getElem? (i := (n - 1).toNat) ?_
      rw [List.getElem?_take, if_pos (by omega), e]
    · rw [hr0 h0]; exact ⟨fun x hx => by simp at hx, by simp⟩
  have hid : I64 id := by rw [← h.ida]; exact h.oka.id
  have hnI : I64 n := by have := h.oka.fN; have := h.oka.u16; unfold I64; omega
  have hac : I64 ack := by have := h.oka.cN; unfold I64; omega
  exact ⟨packP_bytes hid hnI hac hrow.1 (by omega), by have := packP_length (id := id) (n := n) (came := ack) (row := row) (by omega); omega⟩
theorem len_wt : ∀ way : List (Int × List Int), way.length ≤ wt way
  | [] => Nat.le_refl _
  | p :: way => by have := len_wt way; rw [wt_cons, List.length_cons]; split <;> omega
theorem wt_len : ∀ way : List (Int × List Int), wt way ≤ 2 * way.length
  | [] => Nat.le_refl _
  | p :: way => by have := wt_len way; rw [wt_cons, List.length_cons]; split <;> omega
theorem mu_len {G : List (List Int)} {a : LS} {way : List (Int × List Int)} : way.length ≤ mu G a way := by
  have := len_wt way
  unfold mu
  omega
structure SInv (k : Nat) (G : List (List Int)) (sa : LS) (ps : List (Int × List Int)) : Prop where
  e : Ends2 3 (1 + 40 * (k : Int)) G [] sa (LS.new 3) k 0 [] []
  w : Way2 3 G [] sa (LS.new 3) ps
  full : sa.under = min sa.rows.length 16
  f1 : sa.first = 1
  len : ps.length = sa.under
theorem SInv.start {G : List (List Int)} : SInv 0 G (LS.new 3) [] :=
  ⟨ends2_new (by unfold I64; omega), fun p hp => by simp at hp, rfl, rfl, rfl⟩
theorem SInv.send {k : Nat} {G : List (List Int)} {sa : LS} {ps : List (Int × List Int)} (h : SInv k G sa ps) {p : List Int} (hp : G[k]? = some p) (hB : Bytes p) (hl : p.length ≤ 4096) (hk : k < 1000) :
    (sendP sa p).2.1 = 0 ∧ SInv (k + 1) G (sendP sa p).2.2 (ps ++ (sendP sa p).1.map fun r => ((1 : Int), r)) := by
  have hkl : k < G.length := (List.getElem?_eq_some_iff.1 hp).1
  have hrl : sa.rows.length = k := by
    rw [h.e.fa.rows, h.f1, List.length_drop, List.length_take]
    simp only [Int.sub_self, Int.toNat_zero]
    omega
  have hE := h.e.send hp hB
  have hs : sendP sa p = ((fillP { sa with rows := sa.rows ++ [p] }).1, 0, (fillP { sa with rows := sa.rows ++ [p] }).2) := by
    unfold sendP
    rw [if_neg (by omega), if_neg (by omega)]
  rw [hs] at hE ⊢
  obtain ⟨E, P, f, c⟩ := hE
  have E' : Ends2 3 (1 + 40 * ((k + 1 : Nat) : Int)) G [] (fillP { sa with rows := sa.rows ++ [p] }).2 (LS.new 3) (k + 1) 0 [] [] := by
    have e1 : (1 : Int) + 40 * ((k + 1 : Nat) : Int) = 1 + 40 * (k : Int) + 40 := by omega
    rw [e1]
    exact E
  refine ⟨rfl, E', (h.w.left f c).add1 P, fill_full _ (by show sa.under ≤ (sa.rows ++ [p]).length; have := h.e.fa.ul; simp; omega) h.e.oka.u16, h.f1, ?_⟩
  rw [List.length_append, List.length_map, h.len]
  show sa.under + (outP _ _).length = sa.under + LS.room _
  rw [outP_length]
theorem SInv.done {G : List (List Int)} {sa : LS} {ps : List (Int × List Int)} (h : SInv G.length G sa ps) (h60 : G.length ≤ 60) : EInv 3 3000 G sa (LS.new 3) [] ps ∧ mu G sa ps ≤ 160 := by
  have hN : (1 : Int) + 40 * (G.length : Int) ≤ 3000 := by omega
  refine ⟨⟨⟨h.e.oka.mono hN, h.e.okb.mono hN, h.e.ida, h.e.idb, h.e.fa, h.e.fb, h.e.sa, h.e.sb⟩, h.w, h.full⟩, ?_⟩
  have h1 := wt_len ps
  have h2 := h.len
  have h3 := h.e.oka.u16
  have h4 := h.f1
  unfold mu
  omega
theorem EInv.mono {id N M : Int} {G : List (List Int)} {a b : LS} {cb : List (List Int)} {way : List (Int × List Int)} (h : EInv id N G a b cb way) (hN : N ≤ M) : EInv id M G a b cb way :=
  ⟨⟨h.e.oka.mono hN, h.e.okb.mono hN, h.e.ida, h.e.idb, h.e.fa, h.e.fb, h.e.sa, h.e.sb⟩, h.w, h.full⟩
theorem Near.done {G : List (List Int)} {a b : LS} {cb : List (List Int)} {way : List (Int × List Int)} (h : Near 0 G a b cb way) : a.rows = [] ∧ cb = G := by
  rcases h with h | ⟨h, _⟩ | ⟨h, _⟩ | h
  · exact h.2
  · omega
  · omega
  · omega
theorem EInv.head {id N : Int} {G : List (List Int)} {a b : LS} {cb : List (List Int)} {tg : Int} {p : List Int} {way : List (Int × List Int)} (h : EInv id N G a b cb ((tg, p) :: way)) (hN : N ≤ 900000000000) : (tg = 1 ∨ tg = 0) ∧ Bytes p ∧ p.length ≤ 5000 := by
  rcases h.w (tg, p) (by simp) with ⟨e, x⟩ | ⟨e, x⟩
  · exact ⟨.inl e, pkt_small h.e (by omega) x⟩
  · exact ⟨.inr e, pkt_small h.e.swap (by omega) x⟩
theorem came_len {id N : Int} {G : List (List Int)} {a b : LS} {cb : List (List Int)} {way : List (Int × List Int)} (h : EInv id N G a b cb way) : cb.length ≤ G.length := by
  rw [h.e.fa.came, List.length_take]; omega
end Go.Oct
end

section
namespace Go.Oct
open Go.RowKit

structure OInv (i : Nat) (Ga Gb : List (List Int)) (sa sb : LS) (ka kb : Nat) (ca cb : List (List Int)) (ps : List (Int × List Int)) : Prop where
  e : Ends2 9 (1 + 40 * (i : Int)) Ga Gb sa sb ka kb ca cb
  w : Way2 9 Ga Gb sa sb ps
  len : ps.length ≤ 100 * i
theorem Ends2.mono {id N M : Int} {Ga Gb : List (List Int)} {a b : LS} {ka kb : Nat} {ca cb : List (List Int)} (h : Ends2 id N Ga Gb a b ka kb ca cb) (hN : N ≤ M) : Ends2 id M Ga Gb a b ka kb ca cb :=
  ⟨h.oka.mono hN, h.okb.mono hN, h.ida, h.idb, h.fa, h.fb, h.sa, h.sb⟩
theorem OInv.start {Ga Gb : List (List Int)} : OInv 0 Ga Gb (LS.new 9) (LS.new 9) 0 0 [] [] [] :=
  ⟨ends2_new (by unfold I64; omega), fun p hp => by simp at hp, by simp⟩
section
variable {i : Nat} {Ga Gb : List (List Int)} {sa sb : LS} {ka kb : Nat} {ca cb : List (List Int)} {ps : List (Int × List Int)}
theorem o_step (i : Nat) : (1 : Int) + 40 * ((i + 1 : Nat) : Int) = 1 + 40 * (i : Int) + 40 := by omega
theorem OInv.sub (h : OInv i Ga Gb sa sb ka kb ca cb ps) {ps' : List (Int × List Int)} (hs : ∀ p ∈ ps', p ∈ ps) (hl : ps'.length ≤ ps.length) : OInv i Ga Gb sa sb ka kb ca cb ps' :=
  ⟨h.e, h.w.sub hs, Nat.le_trans hl h.len⟩
theorem OInv.next (h : OInv i Ga Gb sa sb ka kb ca cb ps) : OInv (i + 1) Ga Gb sa sb ka kb ca cb ps :=
  ⟨by rw [o_step]; exact h.e.mono (by omega), h.w, by have := h.len; omega⟩
theorem OInv.send0 (h : OInv i Ga Gb sa sb ka kb ca cb ps) {p : List Int} (hp : Ga[ka]? = some p) (hB : Bytes p) :
    OInv (i + 1) Ga Gb (sendP sa p).2.2 sb (if (sendP sa p).2.1 = 0 then ka + 1 else ka) kb ca cb (ps ++ (sendP sa p).1.map fun x => ((1 : Int), x)) := by
  obtain ⟨E, P, f, c⟩ := h.e.send hp hB
  refine ⟨by rw [o_step]; exact E, (h.w.left f c).add1 P, ?_⟩
  rw [List.length_append, List.length_map]
  have := h.len
  have := send_outs_len (s := sa) (p := p)
  omega
theorem OInv.send1 (h : OInv i Ga Gb sa sb ka kb ca cb ps) {p : List Int} (hp : Gb[kb]? = some p) (hB : Bytes p) :
    OInv (i + 1) Ga Gb sa (sendP sb p).2.2 ka (if (sendP sb p).2.1 = 0 then kb + 1 else kb) ca cb (ps ++ (sendP sb p).1.map fun x => ((0 : Int), x)) := by
  obtain ⟨E, P, f, c⟩ := h.e.swap.send hp hB
  refine ⟨by rw [o_step]; exact E.swap, (h.w.right f c).add0 P, ?_⟩
  rw [List.length_append, List.length_map]
  have := h.len
  have := send_outs_len (s := sb) (p := p)
  omega
theorem OInv.tick0 (h : OInv i Ga Gb sa sb ka kb ca cb ps) :
    OInv (i + 1) Ga Gb (tickP sa).2 sb ka kb ca cb (ps ++ (tickP sa).1.map fun x => ((1 : Int), x)) := by
  obtain ⟨E, P, f, c⟩ := h.e.tick
  refine ⟨by rw [o_step]; exact E, (h.w.left f c).add1 P, ?_⟩
  rw [List.length_append, List.length_map]
  have := h.len
  have := tick_outs_len h.e.oka
  omega
theorem OInv.tick1 (h : OInv i Ga Gb sa sb ka kb ca cb ps) :
    OInv (i + 1) Ga Gb sa (tickP sb).2 ka kb ca cb (ps ++ (tickP sb).1.map fun x => ((0 : Int), x)) := by
  obtain ⟨E, P, f, c⟩ := h.e.swap.tick
  refine ⟨by rw [o_step]; exact E.swap, (h.w.right f c).add0 P, ?_⟩
  rw [List.length_append, List.length_map]
  have := h.len
  have := tick_outs_len h.e.okb
  omega
theorem OInv.pkt1 (h : OInv i Ga Gb sa sb ka kb ca cb ps) {p : List Int} (hp : ((1 : Int), p) ∈ ps) : Pkt 9 Ga sa p := by
  rcases h.w _ hp with ⟨_, x⟩ | ⟨x, _⟩
  · exact x
  · exact absurd x (by simp)
theorem OInv.pkt0 (h : OInv i Ga Gb sa sb ka kb ca cb ps) {p : List Int} (hp : ((0 : Int), p) ∈ ps) : Pkt 9 Gb sb p := by
  rcases h.w _ hp with ⟨x, _⟩ | ⟨_, x⟩
  · exact absurd x (by simp)
  · exact x
theorem OInv.way (h : OInv i Ga Gb sa sb ka kb ca cb ps) (hi : i ≤ 600) {p : Int × List Int} (hp : p ∈ ps) : (p.1 = 1 ∨ p.1 = 0) ∧ Bytes p.2 ∧ p.2.length ≤ 5000 := by
  rcases h.w p hp with ⟨e, x⟩ | ⟨e, x⟩
  · exact ⟨.inl e, pkt_small h.e (by omega) x⟩
  · exact ⟨.inr e, pkt_small h.e.swap (by omega) x⟩
theorem OInv.hear1 (h : OInv i Ga Gb sa sb ka kb ca cb ps) (hi : i ≤ 600) {p : List Int} (hp : ((1 : Int), p) ∈ ps) {ps' : List (Int × List Int)} (hs : ∀ p ∈ ps', p ∈ ps) (hl : ps'.length ≤ ps.length) :
    OInv (i + 1) Ga Gb sa (hearP sb p).2.2 ka kb ca (cb ++ (hearP sb p).1) (ps' ++ (hearP sb p).2.1.map fun x => ((0 : Int), x)) := by
  obtain ⟨E, P, f, c⟩ := h.e.hear (by omega) (h.pkt1 hp)
  refine ⟨by rw [o_step]; exact E, ((h.w.sub hs).right f c).add0 P, ?_⟩
  rw [List.length_append, List.length_map]
  have := h.len
  have := hear_outs_len (s := sb) (b := p)
  omega
theorem OInv.hear0 (h : OInv i Ga Gb sa sb ka kb ca cb ps) (hi : i ≤ 600) {p : List Int} (hp : ((0 : Int), p) ∈ ps) {ps' : List (Int × List Int)} (hs : ∀ p ∈ ps', p ∈ ps) (hl : ps'.length ≤ ps.length) :
    OInv (i + 1) Ga Gb (hearP sa p).2.2 sb ka kb (ca ++ (hearP sa p).1) cb (ps' ++ (hearP sa p).2.1.map fun x => ((1 : Int), x)) := by
  obtain ⟨E, P, f, c⟩ := h.e.swap.hear (by omega) (h.pkt0 hp)
  refine ⟨by rw [o_step]; exact E.swap, ((h.w.sub hs).left f c).add1 P, ?_⟩
  rw [List.length_append, List.length_map]
  have := h.len
  have := hear_outs_len (s := sa) (b := p)
  omega
theorem Flow.came_k {G : List (List Int)} {k : Nat} {s r : LS} {c : List (List Int)} (h : Flow G k s r c) : c.length ≤ k ∧ k ≤ G.length ∧ c = G.take c.length := by
  have h1 := h.under_k
  have h2 := h.hi
  have h3 := h.lo
  have h4 := h.f1
  have h5 := h.kl
  have e : c.length = r.came.toNat := by rw [h.came, List.length_take, Nat.min_eq_left (by omega)]
  exact ⟨by omega, h5, by rw [e]; exact h.came⟩
theorem OInv.fin (h : OInv i Ga Gb sa sb ka kb ca cb ps) : (ca.length ≤ kb ∧ kb ≤ Gb.length ∧ ca = Gb.take ca.length) ∧ cb.length ≤ ka ∧ ka ≤ Ga.length ∧ cb = Ga.take cb.length :=
  ⟨h.e.fb.came_k, h.e.fa.came_k⟩
end
end Go.Oct
end

section
namespace Go.Proofs.Ytdgalljalcediaa
open Go.RowKit Go.Sep Go.Oct
set_option linter.unusedSimpArgs false

theorem Try.sizeK : (Try.prog.info? 58).map (·.size) = some 2 := by kernel_rfl
theorem own_nextN {W0 w : World} {L : List Asn} {e : TypeId} {size b off n cap : Nat} {xs ys : List Value} (hx : xs.length = size) (S : Sat W0 w (slc e size (some ⟨b, off, none⟩) (n + 1) cap (xs ++ ys) :: L)) : Sat W0 w (slc e size (some ⟨b, off + size, none⟩) n (cap - 1) ys :: L) := by
  obtain ⟨b', pre, post, h0, h1, h2, h3, h4, S1⟩ := Sat.own_some.1 S
  cases h0
  rw [List.length_append, hx, Nat.add_mul, Nat.one_mul] at h1
  refine Sat.own_some.2 ⟨b, pre ++ xs, post, by rw [List.length_append, hx], by omega, by omega, by omega, ?_, by simpa only [List.append_assoc] using S1⟩
  rw [show cap - 1 - n = cap - (n + 1) by omega]
  exact h4
theorem own_lastN {W0 w : World} {L : List Asn} {e : TypeId} {size b off n : Nat} {xs ys : List Value} (hs : 0 < size) (hx : xs.length = size) (S : Sat W0 w (slc e size (some ⟨b, off, none⟩) (n + 1) 1 (xs ++ ys) :: L)) : n = 0 ∧ ys = [] ∧ Sat W0 w (slc e size (some ⟨b, off, none⟩) 0 0 [] :: L) := by
  obtain ⟨b', pre, post, h0, h1, h2, h3, h4, S1⟩ := Sat.own_some.1 S
  cases h0
  obtain rfl : n = 0 := by omega
  rw [List.length_append, hx] at h1
  obtain rfl : ys = [] := List.eq_nil_of_length_eq_zero (by omega)
  refine ⟨rfl, rfl, Sat.own_some.2 ⟨b, pre, xs ++ post, rfl, by simp, by omega, by unfold maxLen; omega, by simp, ?_⟩⟩
  simpa using S1
theorem rowsB_pop {W0 w : World} {L : List Asn} {h : Hd} {hs : List Hd} {r : List Int} {rs : List (List Int)} (S : Sat W0 w (rowsB (h :: hs) (r :: rs) :: L)) : Sat W0 w (sbs h.1 r.length h.2.2 r :: rowsB hs rs :: L) ∧ h.2.1 = r.length := by
  have S1 := Sat.star.1 S
  obtain ⟨h1, S2⟩ := Sat.pure.1 S1.swap
  exact ⟨S2.swap, h1⟩
theorem rowsB_cat {W0 w : World} : ∀ {L : List Asn} {hs ks : List Hd} {rs qs : List (List Int)}, Sat W0 w (rowsB hs rs :: rowsB ks qs :: L) → Sat W0 w (rowsB (hs ++ ks) (rs ++ qs) :: L)
  | L, [], ks, [], qs, S => S.tail
  | L, h :: hs, ks, r :: rs, qs, S => by
    have S1 := Sat.star.1 S
    obtain ⟨h1, S2⟩ := Sat.pure.1 S1.swap
    have S3 := rowsB_cat (L := sbs h.1 r.length h.2.2 r :: L) (S2.sel [0, 1])
    exact Sat.star.2 (Sat.swap (Sat.pure.2 ⟨h1, S3⟩))
  | L, [], _, _ :: _, _, S => absurd (Sat.pure.1 S).1 id
  | L, _ :: _, _, [], _, S => absurd (Sat.pure.1 S).1 id
theorem brs_cat {W0 w : World} {L : List Asn} {ao : Option Addr} {n m cap : Nat} {hs ks : List Hd} {rs qs : List (List Int)} (h1 : rs.length = n) (h2 : qs.length = m)
    (S : Sat W0 w (slc 29 1 ao (n + m) cap (hs.map hv ++ ks.map hv) :: rowsB hs rs :: rowsB ks qs :: L)) : Sat W0 w (brs ao (n + m) cap (rs ++ qs) :: L) := by
  have S1 := rowsB_cat (S.sel [1, 1])
  rw [← List.map_append] at S1
  exact brs_in (by rw [List.length_append, h1, h2]) S1.swap
theorem drop_tail {W0 w : World} {L : List Asn} {A : Asn} (n : Nat) (As : List Asn) (_ : As.length = n) (S : Sat W0 w (A :: (As ++ L))) : Sat W0 w (As ++ L) := S.tail
end Go.Proofs.Ytdgalljalcediaa
end

section
namespace Go.Proofs.Ytdgalljalcediaa
open Go.RowKit Go.Sep Go.Oct

theorem rowsB_nil {W0 w : World} {L : List Asn} (S : Sat W0 w L) : Sat W0 w (rowsB [] [] :: L) := (show Sat W0 w (emp :: L) from S.emp)
theorem rowsB_cons {W0 w : World} {L : List Asn} {h : Hd} {hs : List Hd} {r : List Int} {rs : List (List Int)} (e : h.2.1 = r.length) (S : Sat W0 w (sbs h.1 r.length h.2.2 r :: rowsB hs rs :: L)) : Sat W0 w (rowsB (h :: hs) (r :: rs) :: L) :=
  Sat.star.2 (Sat.swap (Sat.pure.2 ⟨e, S.swap⟩))
theorem rowsB_split {W0 w : World} : ∀ {L : List Asn} {hs : List Hd} {rs : List (List Int)} (k : Nat), Sat W0 w (rowsB hs rs :: L) → Sat W0 w (rowsB (hs.take k) (rs.take k) :: rowsB (hs.drop k) (rs.drop k) :: L)
  | L, hs, rs, 0, S => by simpa using rowsB_nil S
  | L, [], [], k + 1, S => by simpa using rowsB_nil S
  | L, h :: hs, r :: rs, k + 1, S => by
    obtain ⟨S1, e⟩ := rowsB_pop S
    have S2 := rowsB_split (L := sbs h.1 r.length h.2.2 r :: L) k S1.swap
    exact rowsB_cons e (S2.sel [2, 0, 0])
  | L, [], _ :: _, k + 1, S => absurd (Sat.pure.1 S).1 id
  | L, _ :: _, [], k + 1, S => absurd (Sat.pure.1 S).1 id
/-- the k-th row taken out -/
theorem rowsB_pick {W0 w : World} {L : List Asn} {hs : List Hd} {rs : List (List Int)} {k : Nat} {h : Hd} {r : List Int} (hh : hs[k]? = some h) (hr : rs[k]? = some r) (S : Sat W0 w (rowsB hs rs :: L)) :
    Sat W0 w (sbs h.1 r.length h.2.2 r :: rowsB (hs.take k ++ hs.drop (k + 1)) (rs.take k ++ rs.drop (k + 1)) :: L) ∧ h.2.1 = r.length := by
  have S1 := rowsB_split k S
  obtain ⟨k1, e1⟩ := List.getElem?_eq_some_iff.1 hh
  obtain ⟨k2, e2⟩ := List.getElem?_eq_some_iff.1 hr
  rw [List.drop_eq_getElem_cons k1, List.drop_eq_getElem_cons k2, e1, e2] at S1
  obtain ⟨S2, e⟩ := rowsB_pop (S1.sel [1])
  exact ⟨(rowsB_cat (S2.sel [2, 1])).swap, e⟩
end Go.Proofs.Ytdgalljalcediaa
end

section
namespace Go.Proofs.Ytdgalljalcediaa
open Go.RowKit Go.Sep Go.Oct

theorem nums_flat {w : World} : ∀ {els : List (List Value)} {xs : List Int}, Each ((Kd.int .i64).R w) els xs → els.flatten = nv xs ∧ I64s xs
  | [], [], _ => ⟨rfl, fun x hx => by simp at hx⟩
  | [], x :: r, h => by have := h.1; simp at this
  | c :: s, [], h => by have := h.1; simp at this
  | c :: s, x :: r, h => by
    obtain ⟨rfl, hw⟩ := h.2 0 c x rfl rfl
    obtain ⟨h1, h2⟩ := nums_flat (els := s) (xs := r) ⟨by have := h.1; simpa using this, fun i c x hc hx => h.2 (i + 1) c x hc hx⟩
    refine ⟨by rw [List.flatten_cons, h1]; rfl, ?_⟩
    intro y hy
    rcases List.mem_cons.1 hy with rfl | hy
    · exact i64_of_wf hw
    · exact h2 y hy
theorem nums_rd {w : World} {s : Sl Int} {c : List Value} (h : (Kd.sl (Kd.int .i64)).R w c s) : Rd w s.ao (nv s.xs) ∧ s.xs.length = s.len ∧ I64s s.xs ∧ s.len ≤ s.cap ∧ s.cap ≤ maxLen ∧ s.len ≤ 140737488351232 := by
  obtain ⟨_, h2, h3, h4, h5, h6, _, h8⟩ := h
  obtain ⟨g1, g2⟩ := nums_flat h4
  exact ⟨by rw [← g1]; exact h3, h2, g2, h5, h6, h8⟩
end Go.Proofs.Ytdgalljalcediaa
end

section
namespace Go.Proofs.Ytdgalljalcediaa
open Go.RowKit Go.Sep Go.Oct

def gr (xs : List (Sl Int)) : List (List Int) := xs.map (·.xs)
theorem gr_at {xs : List (Sl Int)} {k : Nat} {x : Sl Int} (h : xs[k]? = some x) : (gr xs)[k]? = some x.xs := by unfold gr; rw [List.getElem?_map, h]; rfl
theorem BRows.rows {w : World} {s : Sl (Sl Int)} (h : BRows w s) {w' : World} (hb : Below w.heap.size w w') : RdRows w' s.ao (gr s.xs) := by
  intro i r hr
  unfold gr at hr
  rw [List.getElem?_map] at hr
  obtain ⟨x, hx, rfl⟩ : ∃ x, s.xs[i]? = some x ∧ x.xs = r := by
    cases hx : s.xs[i]? with
    | none => rw [hx] at hr; cases hr
    | some x => rw [hx] at hr; exact ⟨x, rfl, by simpa using hr⟩
  obtain ⟨b, off, ha, hc, hr⟩ := h.row i x hx
  refine ⟨b, off, x.ao, x.cap, ha, ?_, hr.rd.below hb⟩
  rw [hr.len, ← hc]
  exact World.cell?_of_block (hb.block b (World.block_lt_of_cell? w _ hc))
theorem BRows.cell {w : World} {s : Sl (Sl Int)} (h : BRows w s) {k : Nat} {x : Sl Int} (hx : s.xs[k]? = some x) : ∃ b off, s.ao = some ⟨b, off, none⟩ ∧ BRow w x ∧ ∀ w', Below w.heap.size w w' → w'.cell? ⟨b, off + k, none⟩ = some (.slice x.ao x.len x.cap) := by
  obtain ⟨b, off, ha, hc, hr⟩ := h.row k x hx
  refine ⟨b, off, ha, hr, fun w' hb => ?_⟩
  rw [← hc]
  exact World.cell?_of_block (hb.block b (World.block_lt_of_cell? w _ hc))
theorem out0_any {W0 w : World} {L : List Asn} {x p0 p1 q0 q1 : Nat} {ps : List (Int × List Int)} {lo : Option Addr} {n c : Nat} {rs : List (List Int)} (S : Sat W0 w (BW2 x p0 p1 q0 q1 ps :: brs lo n c rs :: L)) (hsm : ∀ r ∈ rs, r.length ≤ 1000000) (hn9 : n ≤ 100000) (hps : ps.length ≤ 100000000) :
    Calls Try.prog 23 #[.pointer (some ⟨x, 0, none⟩), .int .i64 0, .slice lo n c] w fun e' w' => e' = .returned (.tuple #[]) ∧ Sat W0 w' (BW2 x p0 p1 q0 q1 (ps ++ rs.map fun r => ((1 : Int), r)) :: brs lo n c rs :: L) := by
  have := out_any16 (e := 0) (by omega) S hsm hn9 hps
  simpa using this
theorem out1_any {W0 w : World} {L : List Asn} {x p0 p1 q0 q1 : Nat} {ps : List (Int × List Int)} {lo : Option Addr} {n c : Nat} {rs : List (List Int)} (S : Sat W0 w (BW2 x p0 p1 q0 q1 ps :: brs lo n c rs :: L)) (hsm : ∀ r ∈ rs, r.length ≤ 1000000) (hn9 : n ≤ 100000) (hps : ps.length ≤ 100000000) :
    Calls Try.prog 23 #[.pointer (some ⟨x, 0, none⟩), .int .i64 1, .slice lo n c] w fun e' w' => e' = .returned (.tuple #[]) ∧ Sat W0 w' (BW2 x p0 p1 q0 q1 (ps ++ rs.map fun r => ((0 : Int), r)) :: brs lo n c rs :: L) := by
  have := out_any16 (e := 1) (by omega) S hsm hn9 hps
  simpa using this
end Go.Proofs.Ytdgalljalcediaa
end

section
namespace Go.Proofs.Ytdgalljalcediaa
open Go.RowKit Go.Sep Go.Oct
set_option linter.unusedSimpArgs false

def SmallTo (k : Nat) (xs : List (Sl Int)) : Prop := ∀ j r, j < k → xs[j]? = some r → r.len ≤ 8000
theorem SmallTo.next {k : Nat} {xs : List (Sl Int)} (h : SmallTo k xs) (hx : ∀ r, xs[k]? = some r → r.len ≤ 8000) : SmallTo (k + 1) xs := by
  intro j r hj hr
  rcases Nat.lt_or_ge j k with hjk | hjk
  · exact h j r hjk hr
  · obtain rfl : j = k := by omega
    exact hx r hr

set_option maxRecDepth 100000 in
set_option maxHeartbeats 12800000 in
theorem LinkOrder_walk {w : World} {l m : Sl (Sl Int)} (hl : BRows w l) (hm : BRows w m) {za : Option Addr} {zn zc : Nat} {zs : List Int} (hz : Rd w za (nv zs)) (hzl : zs.length = zn) (hzm : zn ≤ 140737488351232) (hzi : I64s zs) :
    Calls Try.prog 7 #[.slice l.ao l.len l.cap, .slice m.ao m.len m.cap, .slice za zn zc] w fun e w' => e = .returned (.bool true) ∧ Below w.heap.size w w' := by
  obtain ⟨ao, la, acap, aels, xs⟩ := l
  obtain ⟨bo, lb, bcap, bels, ys⟩ := m
  have S0 := Sat.start w
  have hxl : xs.length = la := hl.len
  have hyl : ys.length = lb := hm.len
  have hla : la ≤ 140737488351232 := hl.reach
  have hlb : lb ≤ 140737488351232 := hm.reach
  obtain ⟨i0, hi, hz0, hz1, hz2⟩ := info_parts Try.infoR
  have HL := Lib.hid hl
  have HM := Lib.hid hm
  have HXL := Lib.hid hxl
  have HYL := Lib.hid hyl
  have HZ := Lib.hid hz
  have HZL := Lib.hid hzl
  have HZI := Lib.hid hzi
  clear hl hm hxl hyl hz hzl hzi
  dsimp only
  obtain ⟨L2, hL2⟩ : ∃ L2 : Nat, la + lb = L2 := ⟨_, rfl⟩
  have hwS : IntKind.i64.wrap ((la : Int) + (lb : Int)) = (L2 : Int) := by rw [IntKind.wrap_i64]; omega
  go_enter Try.func7, Try.ntmps7
  go_wp2_with fail
  go_loopw [7, 8] (fun n i wr => ∃ k t : Nat, k ≤ L2 ∧ i = .int .i64 k ∧ n = .int .i64 t ∧ Hid (10 * k ≤ t ∧ t ≤ 8000 ∧ SmallTo k xs ∧ SmallTo k ys) ∧ wr = w) (fun _ i _ => L2 - (intOf i).toNat)
  case atStart => exact ⟨0, 0, by omega, rfl, rfl, ⟨by omega, by omega, fun j r hj => by omega, fun j r hj => by omega⟩, rfl⟩
  case round =>
    obtain ⟨k, t, hk, rfl, rfl, HT, hwr⟩ := hrel
    have hwr' := hwr.symm
    clear hwr
    subst hwr'
    have t0 : (0 : Int) ≤ (t : Int) := by omega
    have t8 := HT.out.2.1
    by_cases hlt : k < L2
    · have hd : decide ((k : Int) < (L2 : Int)) = true := decide_eq_true (by omega)
      have hw3 : IntKind.i64.wrap ((k : Int) + 1) = (k : Int) + 1 := by rw [IntKind.wrap_i64]; omega
      have k0 : (0 : Int) ≤ (k : Int) := by omega
      have HK := Lib.hid (known_any S0)
      obtain ⟨u, hu, hud⟩ : ∃ u : Nat, (if k < la then ∃ x : Sl Int, xs[k]? = some x ∧ u = x.len else u = 0) ∧ u ≤ 140737488351232 := by
        by_cases hka : k < la
        · obtain ⟨x, hx⟩ : ∃ x, xs[k]? = some x := ⟨xs[k]'(by rw [HXL.out]; exact hka), List.getElem?_eq_getElem _⟩
          obtain ⟨_, _, _, _, hrow⟩ := HL.out.row k x hx
          exact ⟨x.len, by rw [if_pos hka]; exact ⟨x, hx, rfl⟩, hrow.reach⟩
        · exact ⟨0, by rw [if_neg hka], by omega⟩
      obtain ⟨v, hv, hvd⟩ : ∃ v : Nat, (if k < lb then ∃ x : Sl Int, ys[k]? = some x ∧ v = x.len else v = 0) ∧ v ≤ 140737488351232 := by
        by_cases hka : k < lb
        · obtain ⟨x, hx⟩ : ∃ x, ys[k]? = some x := ⟨ys[k]'(by rw [HYL.out]; exact hka), List.getElem?_eq_getElem _⟩
          obtain ⟨_, _, _, _, hrow⟩ := HM.out.row k x hx
          exact ⟨x.len, by rw [if_pos hka]; exact ⟨x, hx, rfl⟩, hrow.reach⟩
        · exact ⟨0, by rw [if_neg hka], by omega⟩
      obtain ⟨U1, hU1⟩ : ∃ U1 : Nat, t + 10 = U1 := ⟨_, rfl⟩
      obtain ⟨U2, hU2⟩ : ∃ U2 : Nat, U1 + u = U2 := ⟨_, rfl⟩
      obtain ⟨T3, hT3⟩ : ∃ T3 : Nat, U2 + v = T3 := ⟨_, rfl⟩
      have hw1 : IntKind.i64.wrap ((t : Int) + 10) = (U1 : Int) := by rw [IntKind.wrap_i64]; omega
      have HN : T3 ≤ 8000 → Hid (10 * (k + 1) ≤ T3 ∧ T3 ≤ 8000 ∧ SmallTo (k + 1) xs ∧ SmallTo (k + 1) ys) := by
        intro h8
        obtain ⟨g1, g2, g3, g4⟩ := HT.out
        refine ⟨by omega, h8, g3.next fun r hr => ?_, g4.next fun r hr => ?_⟩
        · have hka : k < la := by have := (List.getElem?_eq_some_iff.1 hr).1; rw [HXL.out] at this; exact this
          rw [if_pos hka] at hu
          obtain ⟨x, hx, rfl⟩ := hu
          rw [hx] at hr; cases hr; omega
        · have hka : k < lb := by have := (List.getElem?_eq_some_iff.1 hr).1; rw [HYL.out] at this; exact this
          rw [if_pos hka] at hv
          obtain ⟨x, hx, rfl⟩ := hv
          rw [hx] at hr; cases hr; omega
      have HN := Lib.hid HN
      by_cases hka : k < la
      · have hda : decide ((k : Int) < (la : Int)) = true := decide_eq_true (by omega)
        have hka1 : (k : Int) < (la : Int) := by omega
        rw [if_pos hka] at hu
        obtain ⟨x, hx, rfl⟩ := hu
        obtain ⟨b, off, hao, hcell, -⟩ := HL.out.row k x hx
        dsimp only at hao
        subst hao
        have hw2 : IntKind.i64.wrap ((U1 : Int) + (x.len : Int)) = (U2 : Int) := by rw [IntKind.wrap_i64]; omega
        by_cases hkb : k < lb
        · have hdb : decide ((k : Int) < (lb : Int)) = true := decide_eq_true (by omega)
          have hkb1 : (k : Int) < (lb : Int) := by omega
          rw [if_pos hkb] at hv
          obtain ⟨y, hy, rfl⟩ := hv
          obtain ⟨b', off', hbo, hcell', -⟩ := HM.out.row k y hy
          dsimp only at hbo
          subst hbo
          have hw4 : IntKind.i64.wrap ((U2 : Int) + (y.len : Int)) = (T3 : Int) := by rw [IntKind.wrap_i64]; omega
          by_cases h8 : T3 ≤ 8000
          · have hd8 : decide ((8000 : Int) < (T3 : Int)) = false := decide_eq_false (by omega)
            clear hx hy
            go_wp2_with fail
            exact ⟨⟨k + 1, T3, by omega, by go_num, rfl, HN.out h8, trivial⟩, by simp [intOf]; omega⟩
          · have hd8 : decide ((8000 : Int) < (T3 : Int)) = true := decide_eq_true (by omega)
            clear hx hy
            go_wp2_with (first | (go_at_call 12; refine HK.out.mono ?_; rintro e w8 ⟨rfl, S8⟩))
            go_ret
            exact ⟨rfl, S8.below⟩
        · have hdb : decide ((k : Int) < (lb : Int)) = false := decide_eq_false (by omega)
          rw [if_neg hkb] at hv
          subst hv
          obtain rfl : U2 = T3 := by omega
          by_cases h8 : U2 ≤ 8000
          · have hd8 : decide ((8000 : Int) < (U2 : Int)) = false := decide_eq_false (by omega)
            clear hx
            go_wp2_with fail
            exact ⟨⟨k + 1, U2, by omega, by go_num, rfl, HN.out h8, trivial⟩, by simp [intOf]; omega⟩
          · have hd8 : decide ((8000 : Int) < (U2 : Int)) = true := decide_eq_true (by omega)
            clear hx
            go_wp2_with (first | (go_at_call 12; refine HK.out.mono ?_; rintro e w8 ⟨rfl, S8⟩))
            go_ret
            exact ⟨rfl, S8.below⟩
      · have hda : decide ((k : Int) < (la : Int)) = false := decide_eq_false (by omega)
        rw [if_neg hka] at hu
        subst hu
        obtain rfl : U1 = U2 := by omega
        by_cases hkb : k < lb
        · have hkb2 := hkb
          have hdb : decide ((k : Int) < (lb : Int)) = true := decide_eq_true (by omega)
          have hkb1 : (k : Int) < (lb : Int) := by omega
          rw [if_pos hkb] at hv
          obtain ⟨y, hy, rfl⟩ := hv
          obtain ⟨b', off', hbo, hcell', -⟩ := HM.out.row k y hy
          dsimp only at hbo
          subst hbo
          have hw4 : IntKind.i64.wrap ((U1 : Int) + (y.len : Int)) = (T3 : Int) := by rw [IntKind.wrap_i64]; omega
          by_cases h8 : T3 ≤ 8000
          · have hd8 : decide ((8000 : Int) < (T3 : Int)) = false := decide_eq_false (by omega)
            clear hy
            go_wp2_with fail
            exact ⟨⟨k + 1, T3, by omega, by go_num, rfl, HN.out h8, trivial⟩, by simp [intOf]; omega⟩
          · have hd8 : decide ((8000 : Int) < (T3 : Int)) = true := decide_eq_true (by omega)
            clear hy
            go_wp2_with (first | (go_at_call 12; refine HK.out.mono ?_; rintro e w8 ⟨rfl, S8⟩))
            go_ret
            exact ⟨rfl, S8.below⟩
        · have hdb : decide ((k : Int) < (lb : Int)) = false := decide_eq_false (by omega)
          rw [if_neg hkb] at hv
          subst hv
          obtain rfl : U1 = T3 := by omega
          by_cases h8 : U1 ≤ 8000
          · have hd8 : decide ((8000 : Int) < (U1 : Int)) = false := decide_eq_false (by omega)
            go_wp2_with fail
            exact ⟨⟨k + 1, U1, by omega, by go_num, rfl, HN.out h8, trivial⟩, by simp [intOf]; omega⟩
          · have hd8 : decide ((8000 : Int) < (U1 : Int)) = true := decide_eq_true (by omega)
            go_wp2_with (first | (go_at_call 12; refine HK.out.mono ?_; rintro e w8 ⟨rfl, S8⟩))
            go_ret
            exact ⟨rfl, S8.below⟩
    · obtain rfl : k = L2 := by omega
      have hd : decide ((k : Int) < (k : Int)) = false := decide_eq_false (by omega)
      have hL9 : Hid (la + lb ≤ 800 ∧ SmallTo (la + lb) xs ∧ SmallTo (la + lb) ys) := by
        obtain ⟨g1, g2, g3, g4⟩ := HT.out
        rw [hL2]
        exact ⟨by omega, g3, g4⟩
      have h800 : k ≤ 800 := by have := HT.out.1; omega
      go_wp2_with (first
        | (go_at_call 21; refine (start_any S0 9).mono ?_; rintro e w1 ⟨x, p0, p1, q0, q1, rfl, S1⟩))
      clear hd t0 t8 h800 hk
      have HL2 : Hid (la + lb = k) := hL2
      clear HT hwS hL2
      have S1' : Sat w w1 (BW2 x p0 p1 q0 q1 [] :: PL p0 (LS.new 9) :: PL p1 (LS.new 9) :: DL q0 (LS.new 9) :: DL q1 (LS.new 9) :: []) := S1
      have S2 := ((S1'.alloc [.slice ao la acap, .slice bo lb bcap] 48).alloc [.int .i64 0, .int .i64 0] 49).alloc [.slice none 0 0, .slice none 0 0] 48
      simp only [World.size_alloc] at S2
      change Sat w (((w1.alloc (Obj.cells #[Value.slice ao la acap, Value.slice bo lb bcap] 48)).alloc (Obj.cells #[Value.int IntKind.i64 0, Value.int IntKind.i64 0] 49)).alloc (Obj.cells #[Value.slice none 0 0, Value.slice none 0 0] 48)) _ at S2
      generalize (((w1.alloc (Obj.cells #[Value.slice ao la acap, Value.slice bo lb bcap] 48)).alloc (Obj.cells #[Value.int IntKind.i64 0, Value.int IntKind.i64 0] 49)).alloc (Obj.cells #[Value.slice none 0 0, Value.slice none 0 0] 48)) = w2 at S2 ⊢
      generalize w1.heap.size + 1 + 1 = gc at S2 ⊢
      generalize w1.heap.size + 1 = gs at S2 ⊢
      generalize w1.heap.size = gg at S2 ⊢
      clear S1 S1'
      have S4 := (brs_none (brs_none S2))
      clear S2
      go_loopw [14] (fun i wr => ∃ (t : Nat) (sa sb : LS) (ka kb : Nat) (ps : List (Int × List Int)) (ca cb : List (List Int)) (aa ab : Option Addr) (na nb : Nat), t ≤ 600 ∧ t ≤ zn ∧ i = .int .i64 t ∧ Hid (OInv t (gr xs) (gr ys) sa sb ka kb ca cb ps) ∧ Sat w wr (BW2 x p0 p1 q0 q1 ps :: PL p0 sa :: PL p1 sb :: brs aa ca.length na ca :: brs ab cb.length nb cb :: blk gc [.slice aa ca.length na, .slice ab cb.length nb] 48 :: blk gs [.int .i64 ka, .int .i64 kb] 49 :: blk gg [.slice ao la acap, .slice bo lb bcap] 48 :: DL q0 (LS.new 9) :: DL q1 (LS.new 9) :: [])) (fun i _ => 600 - (intOf i).toNat)
      case atStart => exact ⟨0, LS.new 9, LS.new 9, 0, 0, [], [], [], none, none, 0, 0, by omega, by omega, rfl, OInv.start, S4.sel [5, 5, 5, 0, 0, 0, 0, 0]⟩
      case round =>
        clear S4
        obtain ⟨t, sa, sb, ka, kb, ps, ca, cb, aa, ab, na, nb, ht6, htz, rfl, HO, S4⟩ := hrel
        have t0 : (0 : Int) ≤ (t : Int) := by omega
        have hw3 : IntKind.i64.wrap ((t : Int) + 1) = (t : Int) + 1 := by rw [IntKind.wrap_i64]; omega
        by_cases htt : t < zn ∧ t < 600
        · have hd1 : decide ((t : Int) < (zn : Int)) = true := decide_eq_true (by omega)
          have hd2 : decide ((t : Int) < 600) = true := decide_eq_true (by omega)
          have htl : (t : Int) < (zn : Int) := by omega
          have htl6 : t < 600 := htt.2
          have htlz : t < zn := htt.1
          obtain ⟨v, hv⟩ : ∃ v, zs[t]? = some v := ⟨zs[t]'(by rw [HZL.out]; exact htlz), List.getElem?_eq_getElem _⟩
          obtain ⟨zb, zo, rfl, cz⟩ := (HZ.out.below S4.below) t (.int .i64 v) (nv_at hv)
          have hm7 : bits .and .i64 v 7 = v % 8 := i64_mask v 7 3 rfl (by decide)
          have hb1 : bits .and .i64 (v / 8) 1 = v / 8 % 2 := i64_mask (v / 8) 1 1 rfl (by decide)
          clear htt
          obtain ⟨⟨hfa, hkb, -⟩, hfb, hka, -⟩ := HO.out.fin
          rw [show (gr ys).length = lb from by show (ys.map _).length = lb; rw [List.length_map, HYL.out]] at hkb
          rw [show (gr xs).length = la from by show (xs.map _).length = la; rw [List.length_map, HXL.out]] at hka
          by_cases hms : v % 8 = 0 ∨ v % 8 = 1
          · have hs0 := S4.cell 6 rfl 0
            have hs1 := S4.cell 6 rfl 1
            have hg0 := S4.cell 7 rfl 0
            have hg1 := S4.cell 7 rfl 1
            simp only [List.getElem?_cons_zero, List.getElem?_cons_succ] at hs0 hs1 hg0 hg1
            by_cases he : v / 8 % 2 = 0
            · have hbe : bits .and .i64 (v / 8) 1 = 0 := by rw [hb1, he]
              rcases hms with hm | hm
              have hb7 : (bits .and .i64 v 7 == 0) = true := by rw [hm7, hm]; rfl
              rotate_left
              have hb7 : (bits .and .i64 v 7 == 0) = false := by rw [hm7, hm]; rfl
              have hb8 : (bits .and .i64 v 7 == 1) = true := by rw [hm7, hm]; rfl
              rotate_left
              all_goals
                as_aux_lemma =>
                  go_upto_region 36 with fail
                  clear hb1 hm7 hm he cz hd1 hd2
                  refine wp_region_drawn (N := 8) (LN := #[false, false, false, false, false, false, false, false]) (by kernel_rfl) (by kernel_rfl) (by kernel_rfl) ?_
                  have S5 := S4.drew
                  generalize wr.drew = w5 at S5 ⊢
                  clear hs1 hg1 hs0 hg0 S4
                  have hs0 := S5.cell 6 rfl 0
                  have hg0 := S5.cell 7 rfl 0
                  simp only [List.getElem?_cons_zero, List.getElem?_cons_succ] at hs0 hg0
                  refine wpAny_seg 0 7 1 8 #[true, true, true, true, true, true, true, false] (by kernel_rfl) (by kernel_rfl) ?_
                  simp only [List.take_succ_cons, List.take_zero, List.drop_succ_cons, List.drop_zero]
                  refine wpStill_step (fun K hK => ?_); go_simp; refine hK _ ?_; clear hK K
                  try simp only [Act.put, List.getElem_toArray, List.getElem_cons_zero, List.getElem_cons_succ, List.setIfInBounds_toArray, List.set_cons_zero, List.set_cons_succ]
                  refine wpStill_step (fun K hK => ?_); go_simp; refine hK _ ?_; clear hK K
                  try simp only [Act.put, List.getElem_toArray, List.getElem_cons_zero, List.getElem_cons_succ, List.setIfInBounds_toArray, List.set_cons_zero, List.set_cons_succ]
                  refine wpStill_step (fun K hK => ?_); go_simp; refine hK _ ?_; clear hK K
                  try simp only [Act.put, List.getElem_toArray, List.getElem_cons_zero, List.getElem_cons_succ, List.setIfInBounds_toArray, List.set_cons_zero, List.set_cons_succ]
                  refine wpStill_step (fun K hK => ?_); go_simp; refine hK _ ?_; clear hK K
                  try simp only [Act.put, List.getElem_toArray, List.getElem_cons_zero, List.getElem_cons_succ, List.setIfInBounds_toArray, List.set_cons_zero, List.set_cons_succ]
                  refine wpStill_step (fun K hK => ?_); go_simp; refine hK _ ?_; clear hK K
                  try simp only [Act.put, List.getElem_toArray, List.getElem_cons_zero, List.getElem_cons_succ, List.setIfInBounds_toArray, List.set_cons_zero, List.set_cons_succ]
                  refine wpStill_step (fun K hK => ?_); go_simp; refine hK _ ?_; clear hK K
                  try simp only [Act.put, List.getElem_toArray, List.getElem_cons_zero, List.getElem_cons_succ, List.setIfInBounds_toArray, List.set_cons_zero, List.set_cons_succ]
                  refine wpStill_step (fun K hK => ?_); go_simp; refine hK _ ?_; clear hK K
                  try simp only [Act.put, List.getElem_toArray, List.getElem_cons_zero, List.getElem_cons_succ, List.setIfInBounds_toArray, List.set_cons_zero, List.set_cons_succ]
                  refine wpStill_nil ?_
                  refine wpAny_loc (i := 7) (v := ?_) (LN := #[true, true, true, true, true, true, true, true]) rfl (by kernel_rfl) (by kernel_rfl) (by kernel_rfl) (fun _ _ _ h => h) (by kernel_rfl) (by rfl) ?_ ?_
                  rotate_left
                  · intro w; first | (go_simp; done) | (go_simp; with_reducible rfl)
                  try simp only [Act.put, List.getElem_toArray, List.getElem_cons_zero, List.getElem_cons_succ, List.setIfInBounds_toArray, List.set_cons_zero, List.set_cons_succ]
                  refine ⟨by kernel_rfl, ?_⟩
                  try simp only [Act.put, List.getElem_toArray, List.getElem_cons_zero, List.getElem_cons_succ, List.setIfInBounds_toArray, List.set_cons_zero, List.set_cons_succ]
                  by_cases hgo : ka < la
                  · have hd3 : decide ((ka : Int) < (la : Int)) = true := decide_eq_true (by omega)
                    have hka0 : (0 : Int) ≤ (ka : Int) := by omega
                    have hka1 : (ka : Int) < (la : Int) := by omega
                    obtain ⟨y, hy⟩ : ∃ y, xs[ka]? = some y := ⟨xs[ka]'(by rw [HXL.out]; exact hgo), List.getElem?_eq_getElem _⟩
                    obtain ⟨b, off, hao, hrow, hcell⟩ := HL.out.cell hy
                    have hyl := hL9.out.2.1 ka y (by omega) hy
                    have HOS := HO.out.send0 (gr_at hy) hrow.bytes
                    have hok := HO.out.e.oka
                    have hsm := hok.sendOut (by omega) hrow.bytes (p := y.xs)
                    have hol := send_outs_len (s := sa) (p := y.xs)
                    have hpl := HO.out.len
                    have HSEND := Lib.hid (fun (w' : World) (M : List Asn) (h : Sat w w' (PL p0 sa :: M)) => send_any (m := y.len) (c := y.cap) h hok (by omega) (hrow.rd.below h.below) hrow.len hrow.nil hrow.bytes (by omega))
                    generalize sendP sa y.xs = R at HSEND HOS hsm hol
                    obtain ⟨ou, er, sa'⟩ := R
                    dsimp only at HOS hsm hol
                    have HOS := Lib.hid HOS
                    have HSM : Hid (∀ r ∈ ou, r.length ≤ 1000000) := fun r hr => by have := (hsm r hr).2; omega
                    have HCE := Lib.hid hcell
                    clear hy hsm hok hrow hcell
                    dsimp only at hao
                    subst hao
                    obtain ⟨wa, wc, S6⟩ := BW2_open.1 S5
                    go_upto_region 37 with fail
                    clear hs0 hg0 S5
                    refine wp_region_drawn (N := 20) (LN := #[false, false, false, false, false, false, false, false, false, false, false, false, false, false, false, false, false, false, false, false]) (by kernel_rfl) (by kernel_rfl) (by kernel_rfl) ?_
                    have S7 := S6.drew
                    generalize w5.drew = w7 at S7 ⊢
                    have hs0 := S7.cell 7 rfl 0
                    have hg0 := S7.cell 8 rfl 0
                    have hc0 := S7.cell 0 rfl 0
                    have hce := HCE.out _ S7.below
                    simp only [List.getElem?_cons_zero, List.getElem?_cons_succ] at hs0 hg0 hc0
                    refine wpAny_seg 0 14 6 20 #[true, true, true, true, true, true, true, true, true, true, true, true, true, true, false, false, false, false, false, false] (by kernel_rfl) (by kernel_rfl) ?_
                    simp only [List.take_succ_cons, List.take_zero, List.drop_succ_cons, List.drop_zero]
                    refine wpStill_step (fun K hK => ?_); go_simp; refine hK _ ?_; clear hK K
                    try simp only [Act.put, List.getElem_toArray, List.getElem_cons_zero, List.getElem_cons_succ, List.setIfInBounds_toArray, List.set_cons_zero, List.set_cons_succ]
                    refine wpStill_step (fun K hK => ?_); go_simp; refine hK _ ?_; clear hK K
                    try simp only [Act.put, List.getElem_toArray, List.getElem_cons_zero, List.getElem_cons_succ, List.setIfInBounds_toArray, List.set_cons_zero, List.set_cons_succ]
                    refine wpStill_step (fun K hK => ?_); go_simp; refine hK _ ?_; clear hK K
                    try simp only [Act.put, List.getElem_toArray, List.getElem_cons_zero, List.getElem_cons_succ, List.setIfInBounds_toArray, List.set_cons_zero, List.set_cons_succ]
                    refine wpStill_step (fun K hK => ?_); go_simp; refine hK _ ?_; clear hK K
                    try simp only [Act.put, List.getElem_toArray, List.getElem_cons_zero, List.getElem_cons_succ, List.setIfInBounds_toArray, List.set_cons_zero, List.set_cons_succ]
                    refine wpStill_step (fun K hK => ?_); go_simp; refine hK _ ?_; clear hK K
                    try simp only [Act.put, List.getElem_toArray, List.getElem_cons_zero, List.getElem_cons_succ, List.setIfInBounds_toArray, List.set_cons_zero, List.set_cons_succ]
                    refine wpStill_step (fun K hK => ?_); go_simp; refine hK _ ?_; clear hK K
                    try simp only [Act.put, List.getElem_toArray, List.getElem_cons_zero, List.getElem_cons_succ, List.setIfInBounds_toArray, List.set_cons_zero, List.set_cons_succ]
                    refine wpStill_step (fun K hK => ?_); go_simp; refine hK _ ?_; clear hK K
                    try simp only [Act.put, List.getElem_toArray, List.getElem_cons_zero, List.getElem_cons_succ, List.setIfInBounds_toArray, List.set_cons_zero, List.set_cons_succ]
                    refine wpStill_step (fun K hK => ?_); go_simp; refine hK _ ?_; clear hK K
                    try simp only [Act.put, List.getElem_toArray, List.getElem_cons_zero, List.getElem_cons_succ, List.setIfInBounds_toArray, List.set_cons_zero, List.set_cons_succ]
                    refine wpStill_step (fun K hK => ?_); go_simp; refine hK _ ?_; clear hK K
                    try simp only [Act.put, List.getElem_toArray, List.getElem_cons_zero, List.getElem_cons_succ, List.setIfInBounds_toArray, List.set_cons_zero, List.set_cons_succ]
                    refine wpStill_step (fun K hK => ?_); go_simp; refine hK _ ?_; clear hK K
                    try simp only [Act.put, List.getElem_toArray, List.getElem_cons_zero, List.getElem_cons_succ, List.setIfInBounds_toArray, List.set_cons_zero, List.set_cons_succ]
                    refine wpStill_step (fun K hK => ?_); go_simp; refine hK _ ?_; clear hK K
                    try simp only [Act.put, List.getElem_toArray, List.getElem_cons_zero, List.getElem_cons_succ, List.setIfInBounds_toArray, List.set_cons_zero, List.set_cons_succ]
                    refine wpStill_step (fun K hK => ?_); go_simp; refine hK _ ?_; clear hK K
                    try simp only [Act.put, List.getElem_toArray, List.getElem_cons_zero, List.getElem_cons_succ, List.setIfInBounds_toArray, List.set_cons_zero, List.set_cons_succ]
                    refine wpStill_step (fun K hK => ?_); go_simp; refine hK _ ?_; clear hK K
                    try simp only [Act.put, List.getElem_toArray, List.getElem_cons_zero, List.getElem_cons_succ, List.setIfInBounds_toArray, List.set_cons_zero, List.set_cons_succ]
                    refine wpStill_step (fun K hK => ?_); go_simp; refine hK _ ?_; clear hK K
                    try simp only [Act.put, List.getElem_toArray, List.getElem_cons_zero, List.getElem_cons_succ, List.setIfInBounds_toArray, List.set_cons_zero, List.set_cons_succ]
                    refine wpStill_nil ?_
                    refine wpAny_one (i := 14) (LN := #[true, true, true, true, true, true, true, true, true, true, true, true, true, true, true, false, false, false, false, false]) (by kernel_rfl) rfl (by kernel_rfl) ?_
                    intro K hK
                    go_simp
                    go_at_call 14
                    refine (HSEND.out _ _ (S7.sel [2])).mono ?_
                    unfold Sent
                    rintro e w8 ⟨oa, oc, rfl, S8⟩
                    dsimp only at S8 ⊢
                    go_wp2_with fail
                    refine hK.out _ _ ?_
                    clear hK K
                    try simp only [Act.put, List.getElem_toArray, List.getElem_cons_zero, List.getElem_cons_succ, List.setIfInBounds_toArray, List.set_cons_zero, List.set_cons_succ]
                    refine wpAny_loc (i := 15) (v := ?_) (LN := #[true, true, true, true, true, true, true, true, true, true, true, true, true, true, true, true, false, false, false, false]) rfl (by kernel_rfl) (by kernel_rfl) (by kernel_rfl) (fun _ _ _ h => h) (by kernel_rfl) (by rfl) ?_ ?_
                    rotate_left
                    · intro w; first | (go_simp; done) | (go_simp; with_reducible rfl)
                    try simp only [Act.put, List.getElem_toArray, List.getElem_cons_zero, List.getElem_cons_succ, List.setIfInBounds_toArray, List.set_cons_zero, List.set_cons_succ]
                    refine wpAny_loc (i := 16) (v := ?_) (LN := #[true, true, true, true, true, true, true, true, true, true, true, true, true, true, true, true, true, false, false, false]) rfl (by kernel_rfl) (by kernel_rfl) (by kernel_rfl) (fun _ _ _ h => h) (by kernel_rfl) (by rfl) ?_ ?_
                    rotate_left
                    · intro w; first | (go_simp; done) | (go_simp; with_reducible rfl)
                    try simp only [Act.put, List.getElem_toArray, List.getElem_cons_zero, List.getElem_cons_succ, List.setIfInBounds_toArray, List.set_cons_zero, List.set_cons_succ]
                    refine wpAny_loc (i := 17) (v := ?_) (LN := #[true, true, true, true, true, true, true, true, true, true, true, true, true, true, true, true, true, true, false, false]) rfl (by kernel_rfl) (by kernel_rfl) (by kernel_rfl) (fun _ _ _ h => h) (by kernel_rfl) (by rfl) ?_ ?_
                    rotate_left
                    · intro w; first | (go_simp; done) | (go_simp; with_reducible rfl)
                    try simp only [Act.put, List.getElem_toArray, List.getElem_cons_zero, List.getElem_cons_succ, List.setIfInBounds_toArray, List.set_cons_zero, List.set_cons_succ]
                    refine wpAny_loc (i := 18) (v := ?_) (LN := #[true, true, true, true, true, true, true, true, true, true, true, true, true, true, true, true, true, true, true, false]) rfl (by kernel_rfl) (by kernel_rfl) (by kernel_rfl) (fun _ _ _ h => h) (by kernel_rfl) (by rfl) ?_ ?_
                    rotate_left
                    · intro w; first | (go_simp; done) | (go_simp; with_reducible rfl)
                    try simp only [Act.put, List.getElem_toArray, List.getElem_cons_zero, List.getElem_cons_succ, List.setIfInBounds_toArray, List.set_cons_zero, List.set_cons_succ]
                    refine wpAny_loc (i := 19) (v := ?_) (LN := #[true, true, true, true, true, true, true, true, true, true, true, true, true, true, true, true, true, true, true, true]) rfl (by kernel_rfl) (by kernel_rfl) (by kernel_rfl) (fun _ _ _ h => h) (by kernel_rfl) (by rfl) ?_ ?_
                    rotate_left
                    · intro w; first | (go_simp; done) | (go_simp; with_reducible rfl)
                    try simp only [Act.put, List.getElem_toArray, List.getElem_cons_zero, List.getElem_cons_succ, List.setIfInBounds_toArray, List.set_cons_zero, List.set_cons_succ]
                    refine ⟨by kernel_rfl, ?_⟩
                    try simp only [Act.put, List.getElem_toArray, List.getElem_cons_zero, List.getElem_cons_succ, List.setIfInBounds_toArray, List.set_cons_zero, List.set_cons_succ]
                    clear hs0 hg0 hc0 hce S6 S7
                    have hcm : ∀ ka', (ka' = if er = 0 then ka + 1 else ka) → decide ((kb : Int) < (ca.length : Int)) = false ∧ decide ((ka' : Int) < (cb.length : Int)) = false := by
                      intro ka' hk'
                      refine ⟨decide_eq_false (by omega), decide_eq_false ?_⟩
                      split at hk' <;> omega
                    by_cases her : er = 0
                    · have her2 : (er == 0) = true := by rw [her]; rfl
                      rw [if_pos her] at HOS
                      obtain ⟨hc1, hc2⟩ := hcm (ka + 1) (by rw [if_pos her])
                      have hwk : IntKind.i64.wrap ((ka : Int) + 1) = (ka : Int) + 1 := by rw [IntKind.wrap_i64]; omega
                      have hc2' : decide ((ka : Int) + 1 < (cb.length : Int)) = false := hc2
                      have hs0 := S8.cell 8 rfl 0
                      have hsf0 := S8.frozen 8 rfl 0
                      simp only [List.getElem?_cons_zero, List.getElem?_cons_succ] at hs0
                      have S9 := S8.setCell (k := 0) (v := .int .i64 ((ka : Int) + 1)) 8 rfl
                      have S10 := (BW2_open.2 ⟨wa, wc, S9.sel [2, 2]⟩).sel [0, 0]
                      clear hc2 S9
                      go_upto_region 43 with fail
                      generalize World.setCell w8 _ _ = w9 at S10 ⊢
                      clear hs0 hsf0 S8
                      go_wp2_with (first
                        | (go_at_call 23; refine (out0_any S10 HSM.out (by omega) (by omega)).mono ?_; rintro e w11 ⟨rfl, S11⟩; have hq0 := S11.cell 7 rfl 0; have hq1 := S11.cell 7 rfl 1; have hr0 := S11.cell 6 rfl 0; have hr1 := S11.cell 6 rfl 1; simp only [List.getElem?_cons_zero, List.getElem?_cons_succ] at hq0 hq1 hr0 hr1))
                      exact ⟨⟨t + 1, sa', sb, ka + 1, kb, _, ca, cb, aa, ab, na, nb, by omega, by omega, by go_num, HOS.out, (S11.sel [1]).tail⟩, by simp [intOf]; omega⟩
                    · have her2 : (er == 0) = false := by simpa using her
                      rw [if_neg her] at HOS
                      obtain ⟨hc1, hc2⟩ := hcm ka (by rw [if_neg her])
                      have S10 := (BW2_open.2 ⟨wa, wc, S8.sel [2, 2]⟩).sel [0, 0]
                      clear S8
                      go_wp2_with (first
                        | (go_at_call 23; refine (out0_any S10 HSM.out (by omega) (by omega)).mono ?_; rintro e w11 ⟨rfl, S11⟩; have hq0 := S11.cell 7 rfl 0; have hq1 := S11.cell 7 rfl 1; have hr0 := S11.cell 6 rfl 0; have hr1 := S11.cell 6 rfl 1; simp only [List.getElem?_cons_zero, List.getElem?_cons_succ] at hq0 hq1 hr0 hr1))
                      exact ⟨⟨t + 1, sa', sb, ka, kb, _, ca, cb, aa, ab, na, nb, by omega, by omega, by go_num, HOS.out, (S11.sel [1]).tail⟩, by simp [intOf]; omega⟩
                  · have hd3 : decide ((ka : Int) < (la : Int)) = false := decide_eq_false (by omega)
                    have hc1 : decide ((kb : Int) < (ca.length : Int)) = false := decide_eq_false (by omega)
                    have hc2 : decide ((ka : Int) < (cb.length : Int)) = false := decide_eq_false (by omega)
                    have hpl := HO.out.len
                    have HOS := Lib.hid HO.out.next
                    have S9 : Sat w w5 (BW2 x p0 p1 q0 q1 ps :: brs none ([] : List (List Int)).length 0 [] :: _) := (brs_none S5).sel [1, 0]
                    go_wp2_with (first
                      | (go_at_call 23; refine (out0_any S9 (fun r hr => by simp at hr) (by simp) (by omega)).mono ?_; rintro e w11 ⟨rfl, S11⟩; have hq0 := S11.cell 7 rfl 0; have hq1 := S11.cell 7 rfl 1; have hr0 := S11.cell 6 rfl 0; have hr1 := S11.cell 6 rfl 1; simp only [List.getElem?_cons_zero, List.getElem?_cons_succ] at hq0 hq1 hr0 hr1))
                    rw [List.map_nil, List.append_nil] at S11
                    exact ⟨⟨t + 1, sa, sb, ka, kb, _, ca, cb, aa, ab, na, nb, by omega, by omega, by go_num, HOS.out, (S11.sel [1]).tail⟩, by simp [intOf]; omega⟩
            · have hbe : bits .and .i64 (v / 8) 1 = 1 := by rw [hb1]; omega
              clear hb1 he
              rcases hms with hm | hm
              have hb7 : (bits .and .i64 v 7 == 0) = true := by rw [hm7, hm]; rfl
              rotate_left
              have hb7 : (bits .and .i64 v 7 == 0) = false := by rw [hm7, hm]; rfl
              have hb8 : (bits .and .i64 v 7 == 1) = true := by rw [hm7, hm]; rfl
              rotate_left
              all_goals
                as_aux_lemma =>
                  go_upto_region 36 with fail
                  clear hm7 hm cz hd1 hd2
                  refine wp_region_drawn (N := 8) (LN := #[false, false, false, false, false, false, false, false]) (by kernel_rfl) (by kernel_rfl) (by kernel_rfl) ?_
                  have S5 := S4.drew
                  generalize wr.drew = w5 at S5 ⊢
                  clear hs1 hg1 hs0 hg0 S4
                  have hs0 := S5.cell 6 rfl 1
                  have hg0 := S5.cell 7 rfl 1
                  simp only [List.getElem?_cons_zero, List.getElem?_cons_succ] at hs0 hg0
                  refine wpAny_seg 0 7 1 8 #[true, true, true, true, true, true, true, false] (by kernel_rfl) (by kernel_rfl) ?_
                  simp only [List.take_succ_cons, List.take_zero, List.drop_succ_cons, List.drop_zero]
                  refine wpStill_step (fun K hK => ?_); go_simp; refine hK _ ?_; clear hK K
                  try simp only [Act.put, List.getElem_toArray, List.getElem_cons_zero, List.getElem_cons_succ, List.setIfInBounds_toArray, List.set_cons_zero, List.set_cons_succ]
                  refine wpStill_step (fun K hK => ?_); go_simp; refine hK _ ?_; clear hK K
                  try simp only [Act.put, List.getElem_toArray, List.getElem_cons_zero, List.getElem_cons_succ, List.setIfInBounds_toArray, List.set_cons_zero, List.set_cons_succ]
                  refine wpStill_step (fun K hK => ?_); go_simp; refine hK _ ?_; clear hK K
                  try simp only [Act.put, List.getElem_toArray, List.getElem_cons_zero, List.getElem_cons_succ, List.setIfInBounds_toArray, List.set_cons_zero, List.set_cons_succ]
                  refine wpStill_step (fun K hK => ?_); go_simp; refine hK _ ?_; clear hK K
                  try simp only [Act.put, List.getElem_toArray, List.getElem_cons_zero, List.getElem_cons_succ, List.setIfInBounds_toArray, List.set_cons_zero, List.set_cons_succ]
                  refine wpStill_step (fun K hK => ?_); go_simp; refine hK _ ?_; clear hK K
                  try simp only [Act.put, List.getElem_toArray, List.getElem_cons_zero, List.getElem_cons_succ, List.setIfInBounds_toArray, List.set_cons_zero, List.set_cons_succ]
                  refine wpStill_step (fun K hK => ?_); go_simp; refine hK _ ?_; clear hK K
                  try simp only [Act.put, List.getElem_toArray, List.getElem_cons_zero, List.getElem_cons_succ, List.setIfInBounds_toArray, List.set_cons_zero, List.set_cons_succ]
                  refine wpStill_step (fun K hK => ?_); go_simp; refine hK _ ?_; clear hK K
                  try simp only [Act.put, List.getElem_toArray, List.getElem_cons_zero, List.getElem_cons_succ, List.setIfInBounds_toArray, List.set_cons_zero, List.set_cons_succ]
                  refine wpStill_nil ?_
                  refine wpAny_loc (i := 7) (v := ?_) (LN := #[true, true, true, true, true, true, true, true]) rfl (by kernel_rfl) (by kernel_rfl) (by kernel_rfl) (fun _ _ _ h => h) (by kernel_rfl) (by rfl) ?_ ?_
                  rotate_left
                  · intro w; first | (go_simp; done) | (go_simp; with_reducible rfl)
                  try simp only [Act.put, List.getElem_toArray, List.getElem_cons_zero, List.getElem_cons_succ, List.setIfInBounds_toArray, List.set_cons_zero, List.set_cons_succ]
                  refine ⟨by kernel_rfl, ?_⟩
                  try simp only [Act.put, List.getElem_toArray, List.getElem_cons_zero, List.getElem_cons_succ, List.setIfInBounds_toArray, List.set_cons_zero, List.set_cons_succ]
                  by_cases hgo : kb < lb
                  · have hd3 : decide ((kb : Int) < (lb : Int)) = true := decide_eq_true (by omega)
                    have hkq0 : (0 : Int) ≤ (kb : Int) := by omega
                    have hkq1 : (kb : Int) < (lb : Int) := by omega
                    obtain ⟨y, hy⟩ : ∃ y, ys[kb]? = some y := ⟨ys[kb]'(by rw [HYL.out]; exact hgo), List.getElem?_eq_getElem _⟩
                    obtain ⟨b, off, hao, hrow, hcell⟩ := HM.out.cell hy
                    have hyl := hL9.out.2.2 kb y (by omega) hy
                    have HOS := HO.out.send1 (gr_at hy) hrow.bytes
                    have hok := HO.out.e.okb
                    have hsm := hok.sendOut (by omega) hrow.bytes (p := y.xs)
                    have hol := send_outs_len (s := sb) (p := y.xs)
                    have hpl := HO.out.len
                    have HSEND := Lib.hid (fun (w' : World) (M : List Asn) (h : Sat w w' (PL p1 sb :: M)) => send_any (m := y.len) (c := y.cap) h hok (by omega) (hrow.rd.below h.below) hrow.len hrow.nil hrow.bytes (by omega))
                    generalize sendP sb y.xs = R at HSEND HOS hsm hol
                    obtain ⟨ou, er, sb'⟩ := R
                    dsimp only at HOS hsm hol
                    have HOS := Lib.hid HOS
                    have HSM : Hid (∀ r ∈ ou, r.length ≤ 1000000) := fun r hr => by have := (hsm r hr).2; omega
                    have HCE := Lib.hid hcell
                    clear hy hsm hok hrow hcell
                    dsimp only at hao
                    subst hao
                    obtain ⟨wa, wc, S6⟩ := BW2_open.1 S5
                    go_upto_region 37 with fail
                    clear hs0 hg0 S5
                    refine wp_region_drawn (N := 20) (LN := #[false, false, false, false, false, false, false, false, false, false, false, false, false, false, false, false, false, false, false, false]) (by kernel_rfl) (by kernel_rfl) (by kernel_rfl) ?_
                    have S7 := S6.drew
                    generalize w5.drew = w7 at S7 ⊢
                    have hs0 := S7.cell 7 rfl 1
                    have hg0 := S7.cell 8 rfl 1
                    have hc0 := S7.cell 0 rfl 1
                    have hce := HCE.out _ S7.below
                    simp only [List.getElem?_cons_zero, List.getElem?_cons_succ] at hs0 hg0 hc0
                    refine wpAny_seg 0 14 6 20 #[true, true, true, true, true, true, true, true, true, true, true, true, true, true, false, false, false, false, false, false] (by kernel_rfl) (by kernel_rfl) ?_
                    simp only [List.take_succ_cons, List.take_zero, List.drop_succ_cons, List.drop_zero]
                    refine wpStill_step (fun K hK => ?_); go_simp; refine hK _ ?_; clear hK K
                    try simp only [Act.put, List.getElem_toArray, List.getElem_cons_zero, List.getElem_cons_succ, List.setIfInBounds_toArray, List.set_cons_zero, List.set_cons_succ]
                    refine wpStill_step (fun K hK => ?_); go_simp; refine hK _ ?_; clear hK K
                    try simp only [Act.put, List.getElem_toArray, List.getElem_cons_zero, List.getElem_cons_succ, List.setIfInBounds_toArray, List.set_cons_zero, List.set_cons_succ]
                    refine wpStill_step (fun K hK => ?_); go_simp; refine hK _ ?_; clear hK K
                    try simp only [Act.put, List.getElem_toArray, List.getElem_cons_zero, List.getElem_cons_succ, List.setIfInBounds_toArray, List.set_cons_zero, List.set_cons_succ]
                    refine wpStill_step (fun K hK => ?_); go_simp; refine hK _ ?_; clear hK K
                    try simp only [Act.put, List.getElem_toArray, List.getElem_cons_zero, List.getElem_cons_succ, List.setIfInBounds_toArray, List.set_cons_zero, List.set_cons_succ]
                    refine wpStill_step (fun K hK => ?_); go_simp; refine hK _ ?_; clear hK K
                    try simp only [Act.put, List.getElem_toArray, List.getElem_cons_zero, List.getElem_cons_succ, List.setIfInBounds_toArray, List.set_cons_zero, List.set_cons_succ]
                    refine wpStill_step (fun K hK => ?_); go_simp; refine hK _ ?_; clear hK K
                    try simp only [Act.put, List.getElem_toArray, List.getElem_cons_zero, List.getElem_cons_succ, List.setIfInBounds_toArray, List.set_cons_zero, List.set_cons_succ]
                    refine wpStill_step (fun K hK => ?_); go_simp; refine hK _ ?_; clear hK K
                    try simp only [Act.put, List.getElem_toArray, List.getElem_cons_zero, List.getElem_cons_succ, List.setIfInBounds_toArray, List.set_cons_zero, List.set_cons_succ]
                    refine wpStill_step (fun K hK => ?_); go_simp; refine hK _ ?_; clear hK K
                    try simp only [Act.put, List.getElem_toArray, List.getElem_cons_zero, List.getElem_cons_succ, List.setIfInBounds_toArray, List.set_cons_zero, List.set_cons_succ]
                    refine wpStill_step (fun K hK => ?_); go_simp; refine hK _ ?_; clear hK K
                    try simp only [Act.put, List.getElem_toArray, List.getElem_cons_zero, List.getElem_cons_succ, List.setIfInBounds_toArray, List.set_cons_zero, List.set_cons_succ]
                    refine wpStill_step (fun K hK => ?_); go_simp; refine hK _ ?_; clear hK K
                    try simp only [Act.put, List.getElem_toArray, List.getElem_cons_zero, List.getElem_cons_succ, List.setIfInBounds_toArray, List.set_cons_zero, List.set_cons_succ]
                    refine wpStill_step (fun K hK => ?_); go_simp; refine hK _ ?_; clear hK K
                    try simp only [Act.put, List.getElem_toArray, List.getElem_cons_zero, List.getElem_cons_succ, List.setIfInBounds_toArray, List.set_cons_zero, List.set_cons_succ]
                    refine wpStill_step (fun K hK => ?_); go_simp; refine hK _ ?_; clear hK K
                    try simp only [Act.put, List.getElem_toArray, List.getElem_cons_zero, List.getElem_cons_succ, List.setIfInBounds_toArray, List.set_cons_zero, List.set_cons_succ]
                    refine wpStill_step (fun K hK => ?_); go_simp; refine hK _ ?_; clear hK K
                    try simp only [Act.put, List.getElem_toArray, List.getElem_cons_zero, List.getElem_cons_succ, List.setIfInBounds_toArray, List.set_cons_zero, List.set_cons_succ]
                    refine wpStill_step (fun K hK => ?_); go_simp; refine hK _ ?_; clear hK K
                    try simp only [Act.put, List.getElem_toArray, List.getElem_cons_zero, List.getElem_cons_succ, List.setIfInBounds_toArray, List.set_cons_zero, List.set_cons_succ]
                    refine wpStill_nil ?_
                    refine wpAny_one (i := 14) (LN := #[true, true, true, true, true, true, true, true, true, true, true, true, true, true, true, false, false, false, false, false]) (by kernel_rfl) rfl (by kernel_rfl) ?_
                    intro K hK
                    go_simp
                    go_at_call 14
                    refine (HSEND.out _ _ (S7.sel [3])).mono ?_
                    unfold Sent
                    rintro e w8 ⟨oa, oc, rfl, S8⟩
                    dsimp only at S8 ⊢
                    go_wp2_with fail
                    refine hK.out _ _ ?_
                    clear hK K
                    try simp only [Act.put, List.getElem_toArray, List.getElem_cons_zero, List.getElem_cons_succ, List.setIfInBounds_toArray, List.set_cons_zero, List.set_cons_succ]
                    refine wpAny_loc (i := 15) (v := ?_) (LN := #[true, true, true, true, true, true, true, true, true, true, true, true, true, true, true, true, false, false, false, false]) rfl (by kernel_rfl) (by kernel_rfl) (by kernel_rfl) (fun _ _ _ h => h) (by kernel_rfl) (by rfl) ?_ ?_
                    rotate_left
                    · intro w; first | (go_simp; done) | (go_simp; with_reducible rfl)
                    try simp only [Act.put, List.getElem_toArray, List.getElem_cons_zero, List.getElem_cons_succ, List.setIfInBounds_toArray, List.set_cons_zero, List.set_cons_succ]
                    refine wpAny_loc (i := 16) (v := ?_) (LN := #[true, true, true, true, true, true, true, true, true, true, true, true, true, true, true, true, true, false, false, false]) rfl (by kernel_rfl) (by kernel_rfl) (by kernel_rfl) (fun _ _ _ h => h) (by kernel_rfl) (by rfl) ?_ ?_
                    rotate_left
                    · intro w; first | (go_simp; done) | (go_simp; with_reducible rfl)
                    try simp only [Act.put, List.getElem_toArray, List.getElem_cons_zero, List.getElem_cons_succ, List.setIfInBounds_toArray, List.set_cons_zero, List.set_cons_succ]
                    refine wpAny_loc (i := 17) (v := ?_) (LN := #[true, true, true, true, true, true, true, true, true, true, true, true, true, true, true, true, true, true, false, false]) rfl (by kernel_rfl) (by kernel_rfl) (by kernel_rfl) (fun _ _ _ h => h) (by kernel_rfl) (by rfl) ?_ ?_
                    rotate_left
                    · intro w; first | (go_simp; done) | (go_simp; with_reducible rfl)
                    try simp only [Act.put, List.getElem_toArray, List.getElem_cons_zero, List.getElem_cons_succ, List.setIfInBounds_toArray, List.set_cons_zero, List.set_cons_succ]
                    refine wpAny_loc (i := 18) (v := ?_) (LN := #[true, true, true, true, true, true, true, true, true, true, true, true, true, true, true, true, true, true, true, false]) rfl (by kernel_rfl) (by kernel_rfl) (by kernel_rfl) (fun _ _ _ h => h) (by kernel_rfl) (by rfl) ?_ ?_
                    rotate_left
                    · intro w; first | (go_simp; done) | (go_simp; with_reducible rfl)
                    try simp only [Act.put, List.getElem_toArray, List.getElem_cons_zero, List.getElem_cons_succ, List.setIfInBounds_toArray, List.set_cons_zero, List.set_cons_succ]
                    refine wpAny_loc (i := 19) (v := ?_) (LN := #[true, true, true, true, true, true, true, true, true, true, true, true, true, true, true, true, true, true, true, true]) rfl (by kernel_rfl) (by kernel_rfl) (by kernel_rfl) (fun _ _ _ h => h) (by kernel_rfl) (by rfl) ?_ ?_
                    rotate_left
                    · intro w; first | (go_simp; done) | (go_simp; with_reducible rfl)
                    try simp only [Act.put, List.getElem_toArray, List.getElem_cons_zero, List.getElem_cons_succ, List.setIfInBounds_toArray, List.set_cons_zero, List.set_cons_succ]
                    refine ⟨by kernel_rfl, ?_⟩
                    try simp only [Act.put, List.getElem_toArray, List.getElem_cons_zero, List.getElem_cons_succ, List.setIfInBounds_toArray, List.set_cons_zero, List.set_cons_succ]
                    clear hs0 hg0 hc0 hce S6 S7
                    have hcm : ∀ kb', (kb' = if er = 0 then kb + 1 else kb) → decide ((kb' : Int) < (ca.length : Int)) = false ∧ decide ((ka : Int) < (cb.length : Int)) = false := by
                      intro kb' hk'
                      refine ⟨decide_eq_false ?_, decide_eq_false (by omega)⟩
                      split at hk' <;> omega
                    by_cases her : er = 0
                    · have her2 : (er == 0) = true := by rw [her]; rfl
                      rw [if_pos her] at HOS
                      obtain ⟨hc1, hc2⟩ := hcm (kb + 1) (by rw [if_pos her])
                      have hwk : IntKind.i64.wrap ((kb : Int) + 1) = (kb : Int) + 1 := by rw [IntKind.wrap_i64]; omega
                      have hc1' : decide ((kb : Int) + 1 < (ca.length : Int)) = false := hc1
                      have hs0 := S8.cell 8 rfl 1
                      have hsf0 := S8.frozen 8 rfl 1
                      simp only [List.getElem?_cons_zero, List.getElem?_cons_succ] at hs0
                      have S9 := S8.setCell (k := 1) (v := .int .i64 ((kb : Int) + 1)) 8 rfl
                      have S10 := (BW2_open.2 ⟨wa, wc, S9.sel [2, 2]⟩).sel [0, 0]
                      clear hc1 S9
                      go_upto_region 43 with fail
                      generalize World.setCell w8 _ _ = w9 at S10 ⊢
                      clear hs0 hsf0 S8
                      go_wp2_with (first
                        | (go_at_call 23; refine (out1_any S10 HSM.out (by omega) (by omega)).mono ?_; rintro e w11 ⟨rfl, S11⟩; have hq0 := S11.cell 7 rfl 0; have hq1 := S11.cell 7 rfl 1; have hr0 := S11.cell 6 rfl 0; have hr1 := S11.cell 6 rfl 1; simp only [List.getElem?_cons_zero, List.getElem?_cons_succ] at hq0 hq1 hr0 hr1))
                      exact ⟨⟨t + 1, sa, sb', ka, kb + 1, _, ca, cb, aa, ab, na, nb, by omega, by omega, by go_num, HOS.out, (S11.sel [1]).tail.sel [0, 1]⟩, by simp [intOf]; omega⟩
                    · have her2 : (er == 0) = false := by simpa using her
                      rw [if_neg her] at HOS
                      obtain ⟨hc1, hc2⟩ := hcm kb (by rw [if_neg her])
                      have S10 := (BW2_open.2 ⟨wa, wc, S8.sel [2, 2]⟩).sel [0, 0]
                      clear S8
                      go_wp2_with (first
                        | (go_at_call 23; refine (out1_any S10 HSM.out (by omega) (by omega)).mono ?_; rintro e w11 ⟨rfl, S11⟩; have hq0 := S11.cell 7 rfl 0; have hq1 := S11.cell 7 rfl 1; have hr0 := S11.cell 6 rfl 0; have hr1 := S11.cell 6 rfl 1; simp only [List.getElem?_cons_zero, List.getElem?_cons_succ] at hq0 hq1 hr0 hr1))
                      exact ⟨⟨t + 1, sa, sb', ka, kb, _, ca, cb, aa, ab, na, nb, by omega, by omega, by go_num, HOS.out, (S11.sel [1]).tail.sel [0, 1]⟩, by simp [intOf]; omega⟩
                  · have hd3 : decide ((kb : Int) < (lb : Int)) = false := decide_eq_false (by omega)
                    have hc1 : decide ((kb : Int) < (ca.length : Int)) = false := decide_eq_false (by omega)
                    have hc2 : decide ((ka : Int) < (cb.length : Int)) = false := decide_eq_false (by omega)
                    have hpl := HO.out.len
                    have HOS := Lib.hid HO.out.next
                    have S9 : Sat w w5 (BW2 x p0 p1 q0 q1 ps :: brs none ([] : List (List Int)).length 0 [] :: _) := (brs_none S5).sel [1, 0]
                    go_wp2_with (first
                      | (go_at_call 23; refine (out1_any S9 (fun r hr => by simp at hr) (by simp) (by omega)).mono ?_; rintro e w11 ⟨rfl, S11⟩; have hq0 := S11.cell 7 rfl 0; have hq1 := S11.cell 7 rfl 1; have hr0 := S11.cell 6 rfl 0; have hr1 := S11.cell 6 rfl 1; simp only [List.getElem?_cons_zero, List.getElem?_cons_succ] at hq0 hq1 hr0 hr1))
                    rw [List.map_nil, List.append_nil] at S11
                    exact ⟨⟨t + 1, sa, sb, ka, kb, _, ca, cb, aa, ab, na, nb, by omega, by omega, by go_num, HOS.out, (S11.sel [1]).tail⟩, by simp [intOf]; omega⟩
          · by_cases hmt : v % 8 = 2
            · have hb7 : (bits .and .i64 v 7 == 0) = false := by rw [hm7, hmt]; rfl
              have hb8 : (bits .and .i64 v 7 == 1) = false := by rw [hm7, hmt]; rfl
              have hb9 : (bits .and .i64 v 7 == 2) = true := by rw [hm7, hmt]; rfl
              have hpl := HO.out.len
              have hc1 : decide ((kb : Int) < (ca.length : Int)) = false := decide_eq_false (by omega)
              have hc2 : decide ((ka : Int) < (cb.length : Int)) = false := decide_eq_false (by omega)
              clear hm7 hmt
              by_cases he : v / 8 % 2 = 0
              · as_aux_lemma =>
                  have hbe : bits .and .i64 (v / 8) 1 = 0 := by rw [hb1, he]
                  clear hb1 he
                  have hok := HO.out.e.oka
                  have HOS := HO.out.tick0
                  have hsm := hok.tickOut (by omega)
                  have hol := tick_outs_len hok
                  have HTK := Lib.hid (fun (w' : World) (M : List Asn) (h : Sat w w' (PL p0 sa :: M)) => tick_any h hok (by omega))
                  generalize tickP sa = R at HTK HOS hsm hol
                  obtain ⟨ou, sa'⟩ := R
                  dsimp only at HOS hsm hol
                  have HOS := Lib.hid HOS
                  have HSM : Hid (∀ r ∈ ou, r.length ≤ 1000000) := fun r hr => by have := (hsm r hr).2; omega
                  obtain ⟨wa, wc, S5⟩ := BW2_open.1 S4
                  have hl0 := S5.cell 0 rfl 0
                  simp only [List.getElem?_cons_zero, List.getElem?_cons_succ] at hl0
                  clear hsm hok S4
                  go_wp2_with (first
                    | (go_at_call 22; refine (HTK.out _ _ (S5.sel [2])).mono ?_; rintro e w8 ⟨oa, oc, rfl, S8⟩; have S10 := (BW2_open.2 ⟨wa, wc, S8.sel [2, 2]⟩).sel [0, 0])
                    | (go_at_call 23; refine (out0_any S10 HSM.out (by omega) (by omega)).mono ?_; rintro e w11 ⟨rfl, S11⟩; have hq0 := S11.cell 7 rfl 0; have hq1 := S11.cell 7 rfl 1; have hr0 := S11.cell 6 rfl 0; have hr1 := S11.cell 6 rfl 1; simp only [List.getElem?_cons_zero, List.getElem?_cons_succ] at hq0 hq1 hr0 hr1))
                  exact ⟨⟨t + 1, sa', sb, ka, kb, _, ca, cb, aa, ab, na, nb, by omega, by omega, by go_num, HOS.out, (S11.sel [1]).tail⟩, by simp [intOf]; omega⟩
              · as_aux_lemma =>
                  have hbe : bits .and .i64 (v / 8) 1 = 1 := by rw [hb1]; omega
                  clear hb1 he
                  have hok := HO.out.e.okb
                  have HOS := HO.out.tick1
                  have hsm := hok.tickOut (by omega)
                  have hol := tick_outs_len hok
                  have HTK := Lib.hid (fun (w' : World) (M : List Asn) (h : Sat w w' (PL p1 sb :: M)) => tick_any h hok (by omega))
                  generalize tickP sb = R at HTK HOS hsm hol
                  obtain ⟨ou, sb'⟩ := R
                  dsimp only at HOS hsm hol
                  have HOS := Lib.hid HOS
                  have HSM : Hid (∀ r ∈ ou, r.length ≤ 1000000) := fun r hr => by have := (hsm r hr).2; omega
                  obtain ⟨wa, wc, S5⟩ := BW2_open.1 S4
                  have hl0 := S5.cell 0 rfl 1
                  simp only [List.getElem?_cons_zero, List.getElem?_cons_succ] at hl0
                  clear hsm hok S4
                  go_wp2_with (first
                    | (go_at_call 22; refine (HTK.out _ _ (S5.sel [3])).mono ?_; rintro e w8 ⟨oa, oc, rfl, S8⟩; have S10 := (BW2_open.2 ⟨wa, wc, S8.sel [2, 2]⟩).sel [0, 0])
                    | (go_at_call 23; refine (out1_any S10 HSM.out (by omega) (by omega)).mono ?_; rintro e w11 ⟨rfl, S11⟩; have hq0 := S11.cell 7 rfl 0; have hq1 := S11.cell 7 rfl 1; have hr0 := S11.cell 6 rfl 0; have hr1 := S11.cell 6 rfl 1; simp only [List.getElem?_cons_zero, List.getElem?_cons_succ] at hq0 hq1 hr0 hr1))
                  exact ⟨⟨t + 1, sa, sb', ka, kb, _, ca, cb, aa, ab, na, nb, by omega, by omega, by go_num, HOS.out, (S11.sel [1]).tail.sel [0, 1]⟩, by simp [intOf]; omega⟩
            · have hb7 : (bits .and .i64 v 7 == 0) = false := by rw [hm7]; simpa using fun h => hms (.inl h)
              have hb8 : (bits .and .i64 v 7 == 1) = false := by rw [hm7]; simpa using fun h => hms (.inr h)
              have hb9 : (bits .and .i64 v 7 == 2) = false := by rw [hm7]; simpa using hmt
              obtain ⟨wa, wc, S5⟩ := BW2_open.1 S4
              have hcx := S5.cell 0 rfl 4
              simp only [List.getElem?_cons_zero, List.getElem?_cons_succ] at hcx
              have HSV := Lib.hid hm7
              have HCZ : Hid (∀ w', Below w.heap.size w w' → w'.cell? ⟨zb, zo + t, none⟩ = some (.int .i64 v)) := by
                intro w' hb
                obtain ⟨zb', zo', ha, c0⟩ := HZ.out t (.int .i64 v) (nv_at hv)
                cases ha
                rw [← c0]
                exact World.cell?_of_block (hb.block zb (World.block_lt_of_cell? w _ c0))
              clear hv hms hmt hm7 S4
              rcases Nat.eq_zero_or_pos ps.length with h0 | h0
              · have hpe : ((ps.length : Int) == 0) = true := by rw [h0]; rfl
                clear h0
                have HOS := Lib.hid HO.out.next
                go_wp2_with fail
                exact ⟨⟨t + 1, sa, sb, ka, kb, ps, ca, cb, aa, ab, na, nb, by omega, by omega, by go_num, HOS.out, BW2_open.2 ⟨wa, wc, S5⟩⟩, by simp [intOf]; omega⟩
              · have hpe : ((ps.length : Int) == 0) = false := by rw [beq_eq_false_iff_ne]; omega
                have hpe2 : ¬ (ps.length : Int) = 0 := by omega
                have hpe3 : ¬ ps = [] := by rintro rfl; simp at h0
                obtain ⟨kk, hrem, hkk⟩ : ∃ kk : Nat, (v / 16 % 4096).tmod (ps.length : Int) = (kk : Int) ∧ kk < ps.length := by
                  have h1 : 0 ≤ v / 16 % 4096 := by omega
                  have h2 := Int.tmod_nonneg (ps.length : Int) h1
                  have h3 := Int.tmod_lt_of_pos (v / 16 % 4096) (show (0 : Int) < (ps.length : Int) by omega)
                  exact ⟨((v / 16 % 4096).tmod (ps.length : Int)).toNat, by omega, by omega⟩
                have hm16 : bits .and .i64 (v / 16) 4095 = v / 16 % 4096 := i64_mask (v / 16) 4095 12 rfl (by decide)
                go_upto_region 25 with fail
                clear hb7 hb8 hb9 hb1 hcx cz
                refine wp_region_drawn (N := 13) (LN := #[false, false, false, false, false, false, false, false, false, false, false, false, false]) (by kernel_rfl) (by kernel_rfl) (by kernel_rfl) ?_
                have S6 := S5.drew
                generalize wr.drew = w5 at S6 ⊢
                have cz := HCZ.out _ S6.below
                have hcx := S6.cell 0 rfl 4
                simp only [List.getElem?_cons_zero, List.getElem?_cons_succ] at hcx
                clear S5
                refine wpAny_seg 0 12 1 13 #[true, true, true, true, true, true, true, true, true, true, true, true, false] (by kernel_rfl) (by kernel_rfl) ?_
                simp only [List.take_succ_cons, List.take_zero, List.drop_succ_cons, List.drop_zero]
                refine wpStill_step (fun K hK => ?_); go_simp; refine hK _ ?_; clear hK K
                try simp only [Act.put, List.getElem_toArray, List.getElem_cons_zero, List.getElem_cons_succ, List.setIfInBounds_toArray, List.set_cons_zero, List.set_cons_succ]
                refine wpStill_step (fun K hK => ?_); go_simp; refine hK _ ?_; clear hK K
                try simp only [Act.put, List.getElem_toArray, List.getElem_cons_zero, List.getElem_cons_succ, List.setIfInBounds_toArray, List.set_cons_zero, List.set_cons_succ]
                refine wpStill_step (fun K hK => ?_); go_simp; refine hK _ ?_; clear hK K
                try simp only [Act.put, List.getElem_toArray, List.getElem_cons_zero, List.getElem_cons_succ, List.setIfInBounds_toArray, List.set_cons_zero, List.set_cons_succ]
                refine wpStill_step (fun K hK => ?_); go_simp; refine hK _ ?_; clear hK K
                try simp only [Act.put, List.getElem_toArray, List.getElem_cons_zero, List.getElem_cons_succ, List.setIfInBounds_toArray, List.set_cons_zero, List.set_cons_succ]
                refine wpStill_step (fun K hK => ?_); go_simp; refine hK _ ?_; clear hK K
                try simp only [Act.put, List.getElem_toArray, List.getElem_cons_zero, List.getElem_cons_succ, List.setIfInBounds_toArray, List.set_cons_zero, List.set_cons_succ]
                refine wpStill_step (fun K hK => ?_); go_simp; refine hK _ ?_; clear hK K
                try simp only [Act.put, List.getElem_toArray, List.getElem_cons_zero, List.getElem_cons_succ, List.setIfInBounds_toArray, List.set_cons_zero, List.set_cons_succ]
                refine wpStill_step (fun K hK => ?_); go_simp; refine hK _ ?_; clear hK K
                try simp only [Act.put, List.getElem_toArray, List.getElem_cons_zero, List.getElem_cons_succ, List.setIfInBounds_toArray, List.set_cons_zero, List.set_cons_succ]
                refine wpStill_step (fun K hK => ?_); go_simp; refine hK _ ?_; clear hK K
                try simp only [Act.put, List.getElem_toArray, List.getElem_cons_zero, List.getElem_cons_succ, List.setIfInBounds_toArray, List.set_cons_zero, List.set_cons_succ]
                refine wpStill_step (fun K hK => ?_); go_simp; refine hK _ ?_; clear hK K
                try simp only [Act.put, List.getElem_toArray, List.getElem_cons_zero, List.getElem_cons_succ, List.setIfInBounds_toArray, List.set_cons_zero, List.set_cons_succ]
                refine wpStill_step (fun K hK => ?_); go_simp; refine hK _ ?_; clear hK K
                try simp only [Act.put, List.getElem_toArray, List.getElem_cons_zero, List.getElem_cons_succ, List.setIfInBounds_toArray, List.set_cons_zero, List.set_cons_succ]
                refine wpStill_step (fun K hK => ?_); go_simp; refine hK _ ?_; clear hK K
                try simp only [Act.put, List.getElem_toArray, List.getElem_cons_zero, List.getElem_cons_succ, List.setIfInBounds_toArray, List.set_cons_zero, List.set_cons_succ]
                refine wpStill_step (fun K hK => ?_); go_simp; refine hK _ ?_; clear hK K
                try simp only [Act.put, List.getElem_toArray, List.getElem_cons_zero, List.getElem_cons_succ, List.setIfInBounds_toArray, List.set_cons_zero, List.set_cons_succ]
                refine wpStill_nil ?_
                refine wpAny_loc (i := 12) (v := ?_) (LN := #[true, true, true, true, true, true, true, true, true, true, true, true, true]) rfl (by kernel_rfl) (by kernel_rfl) (by kernel_rfl) (fun _ _ _ h => h) (by kernel_rfl) (by rfl) ?_ ?_
                rotate_left
                · intro w; first | (go_simp; done) | (go_simp; with_reducible rfl)
                try simp only [Act.put, List.getElem_toArray, List.getElem_cons_zero, List.getElem_cons_succ, List.setIfInBounds_toArray, List.set_cons_zero, List.set_cons_succ]
                refine ⟨by kernel_rfl, ?_⟩
                try simp only [Act.put, List.getElem_toArray, List.getElem_cons_zero, List.getElem_cons_succ, List.setIfInBounds_toArray, List.set_cons_zero, List.set_cons_succ]
                go_upto_region 26 with fail
                clear hm16 hrem hpe hpe2 hpe3 cz
                have hkk0 : (0 : Int) ≤ (kk : Int) := by omega
                have hkk1 : (kk : Int) < (ps.length : Int) := by omega
                obtain ⟨⟨tg, p⟩, hp⟩ : ∃ q, ps[kk]? = some q := ⟨_, List.getElem?_eq_getElem hkk⟩
                obtain ⟨hs, -, hsl, S7⟩ := WAY_out (S6.sel [1])
                obtain ⟨⟨pa, pn, pc⟩, hh⟩ : ∃ q, hs[kk]? = some q := ⟨_, List.getElem?_eq_getElem (by omega)⟩
                obtain ⟨w1v, w2v⟩ := wayV_at hp hh
                obtain ⟨wb, wo, rfl, c0⟩ := S7.own_rd (kk * 2) _ w1v
                have c1 := S7.own_rd.at (j := kk * 2 + 1) w2v
                obtain rfl : pn = p.length := by
                  obtain ⟨ya, yc, hy, -⟩ := rowsB_at (S7.sel [1]) (i := kk) (r := p) (by rw [List.getElem?_map, hp]; rfl)
                  rw [hh] at hy; cases hy; rfl
                have HCW : Hid (∀ j, j < 2 → w5.cell? ⟨wb, wo + kk * 2 + j, none⟩ = ([.int .i64 tg, .slice pa p.length pc] : List Value)[j]?) := by
                  show ∀ j, j < 2 → _
                  intro j hj
                  match j, hj with
                  | 0, _ => exact c0
                  | 1, _ => exact c1
                have HPS := Lib.hid (⟨hp, hh, hsl⟩ : _ ∧ _ ∧ _)
                clear c0 c1 w1v w2v hp hh hsl S6
                have S8 := (S7.sel [2, 0, 0]).alloc [.int .i64 0, .slice none 0 0] 58
                clear S7
                go_upto_region 27 with (first
                  | (refine wpList_load_part rfl 58 _ rfl (n := 2) rfl HCW.out rfl Try.underlying58 rfl Try.sizeK ?_)
                  | (refine wpList_store_sat (off := 0) (n := 2) rfl 58 _ _ rfl S8 rfl rfl rfl (by simp) Try.sizeK (by simp [Value.oneCell']) ?_; intro w8 S9; have cz := HCZ.out _ S9.below))
                generalize w5.heap.size = pp at S9 ⊢
                have hv7 := HSV.out
                have hpk := HPS.out
                by_cases h7 : v % 8 = 7
                focus
                  have hb7 : (bits .and .i64 v 7 != 7) = false := by rw [hv7, h7]; rfl
                  have hb6 : (bits .and .i64 v 7 == 6) = false := by rw [hv7, h7]; rfl
                  clear hv7 h7
                  go_upto_region 29 with fail
                  have S9b : Sat w w8 (blk pp [.int .i64 tg, .slice pa p.length pc] 58 :: BK x p0 p1 q0 q1 (.slice (some ⟨wb, wo, none⟩) ps.length wc) :: slc 58 2 (some ⟨wb, wo, none⟩) ps.length wc (wayV ps hs) :: rowsB hs (ps.map (·.2)) :: PL p0 sa :: PL p1 sb :: brs aa ca.length na ca :: brs ab cb.length nb cb :: blk gc [.slice aa ca.length na, .slice ab cb.length nb] 48 :: blk gs [.int .i64 ka, .int .i64 kb] 49 :: blk gg [.slice ao la acap, .slice bo lb bcap] 48 :: DL q0 (LS.new 9) :: DL q1 (LS.new 9) :: []) := S9
                  have HY0 : Hid (p.length ≤ pc) := by
                    obtain ⟨ya, yc, hy, -, h1, -⟩ := rowsB_at (S9b.sel [3]) (i := kk) (r := p) (by rw [List.getElem?_map, HPS.out.1]; rfl)
                    have h2 := HPS.out.2.1
                    rw [h2] at hy; cases hy
                    exact h1
                  have S10 : Sat w w8 (blk pp [.int .i64 tg, .slice pa p.length pc] 58 :: BK x p0 p1 q0 q1 (.slice (some ⟨wb, wo, none⟩) ps.length wc) :: star (slc 58 2 (some ⟨wb, wo, none⟩) ps.length wc (wayV ps hs)) (rowsB hs (ps.map (·.2))) :: _) := ((Sat.star.2 (S9b.sel [2, 2])).sel [1, 1])
                  have HY1 : Hid (∀ w' M, Sat w w' (star (slc 58 2 (some ⟨wb, wo, none⟩) ps.length wc (wayV ps hs)) (rowsB hs (ps.map (·.2))) :: M) → Rd w' pa (bv p)) := by
                    intro w' M h
                    obtain ⟨ya, yc, hy, hr, -⟩ := rowsB_at ((Sat.star.1 h).sel [1]) (i := kk) (r := p) (by rw [List.getElem?_map, HPS.out.1]; rfl)
                    have h2 := HPS.out.2.1
                    rw [h2] at hy; cases hy
                    exact hr
                  have HY2 : Hid (∀ w' M, Sat w w' (star (slc 58 2 (some ⟨wb, wo, none⟩) ps.length wc (wayV ps hs)) (rowsB hs (ps.map (·.2))) :: M) → Sat w w' (WAY (some ⟨wb, wo, none⟩) ps.length wc ps :: M)) := fun w' M h => WAY_in rfl (Sat.star.1 h)
                  generalize star (slc 58 2 (some ⟨wb, wo, none⟩) ps.length wc (wayV ps hs)) (rowsB hs (ps.map (·.2))) = Y at S10 HY1 HY2
                  have HSP := HPS
                  clear S9 S9b HPS HCW hb7 cz
                  generalize hyd : (some ⟨wb, wo, none⟩ : Option Addr) = ya2 at S10 HY2
                  clear hyd
                  obtain ⟨ps', HY4, S10, HY2⟩ : ∃ ps', Hid ((∀ q ∈ ps', q ∈ ps) ∧ ps'.length ≤ ps.length) ∧ Sat w w8 (blk pp [.int .i64 tg, .slice pa p.length pc] 58 :: BK x p0 p1 q0 q1 (.slice ya2 ps'.length wc) :: Y :: PL p0 sa :: PL p1 sb :: brs aa ca.length na ca :: brs ab cb.length nb cb :: blk gc [.slice aa ca.length na, .slice ab cb.length nb] 48 :: blk gs [.int .i64 ka, .int .i64 kb] 49 :: blk gg [.slice ao la acap, .slice bo lb bcap] 48 :: DL q0 (LS.new 9) :: DL q1 (LS.new 9) :: []) ∧ Hid (∀ w' M, Sat w w' (Y :: M) → Sat w w' (WAY ya2 ps'.length wc ps' :: M)) := ⟨ps, ⟨fun q h => h, Nat.le_refl _⟩, S10, HY2⟩
                  generalize hye : wc = ye at S10 HY2
                  clear hye
                  generalize hw8 : w8 = w9 at S10 ⊢
                  clear hw8
                rotate_left
                focus
                  have hb7 : (bits .and .i64 v 7 != 7) = true := by rw [hv7]; simpa using h7
                  go_upto_region 28 with fail
                  clear hb7 cz
                  obtain ⟨k0, hik, kz0, kz1, kz2⟩ := info_parts Try.infoK
                  have hlc := (S9.sel [2]).own_len
                  have hpl := HO.out.len
                  obtain ⟨k1, hk1⟩ : ∃ k1 : Nat, kk + 1 = k1 := ⟨_, rfl⟩
                  have hwk : IntKind.i64.wrap ((kk : Int) + 1) = (k1 : Int) := by rw [IntKind.wrap_i64]; omega
                  have hlc1 := hlc.2.1
                  have hk10 : (0 : Int) ≤ (k1 : Int) := by omega
                  have hk11 : (k1 : Int) ≤ (ps.length : Int) := by omega
                  have hkc : (kk : Int) ≤ (wc : Int) := by omega
                  have hcap : wc = k1 ∨ k1 < wc := by omega
                  have HLC := Lib.hid (⟨hlc, hpl, hk1⟩ : _ ∧ _ ∧ _)
                  clear hlc hpl hk1
                  rcases hcap with hcc | hck
                  focus
                    subst wc
                    have HRD : Hid (∀ (w' : World) (M : List Asn), Sat w w' (slc 58 2 (some ⟨wb, wo, none⟩) ps.length k1 (wayV ps hs) :: M) → Rd w' (some ⟨wb, wo, none⟩) ((wayV ps hs).drop (k1 * 2))) := by
                      intro w' M h
                      rw [List.drop_eq_nil_of_le (by rw [wayV_length HPS.out.2.2]; have := HLC.out; omega)]
                      exact Rd.nil _ _
                    refine wp_region_drawn (N := 20) (LN := #[false, false, false, false, false, false, false, false, false, false, false, false, false, false, false, false, false, false, false, false]) (by kernel_rfl) (by kernel_rfl) (by kernel_rfl) ?_
                    have S10 := S9.drew
                    generalize w8.drew = w10 at S10 ⊢
                    refine wpAny_until 19 (fun w' => w'.cell? ⟨x, 4, none⟩ = some (.slice (some ⟨wb, wo, none⟩) ps.length k1)) (S10.cell 1 rfl 4 : _) (fun hHeld => ?_)
                    refine wpAnyU_tk (by kernel_rfl) (i := 0) (v := ?_) (LN := #[true, false, false, false, false, false, false, false, false, false, false, false, false, false, false, false, false, false, false, false]) rfl (by kernel_rfl) (by kernel_rfl) (by kernel_rfl) (fun _ _ _ h => h) (by kernel_rfl) (by rfl) (by assumption) ?_ ?_
                    rotate_left
                    · intro w hSw; (try dsimp only at hSw); first | (go_simp; done) | (go_simp; with_reducible rfl)
                    try simp only [Act.put, List.getElem_toArray, List.getElem_cons_zero, List.getElem_cons_succ, List.setIfInBounds_toArray, List.set_cons_zero, List.set_cons_succ]
                    refine wpAnyU_tk (by kernel_rfl) (i := 2) (v := ?_) (LN := #[true, false, true, false, false, false, false, false, false, false, false, false, false, false, false, false, false, false, false, false]) rfl (by kernel_rfl) (by kernel_rfl) (by kernel_rfl) (fun _ _ _ h => h) (by kernel_rfl) (by rfl) (by assumption) ?_ ?_
                    rotate_left
                    · intro w hSw; (try dsimp only at hSw); first | (go_simp; done) | (go_simp; with_reducible rfl)
                    try simp only [Act.put, List.getElem_toArray, List.getElem_cons_zero, List.getElem_cons_succ, List.setIfInBounds_toArray, List.set_cons_zero, List.set_cons_succ]
                    refine wpAnyU_tk (by kernel_rfl) (i := 3) (v := ?_) (LN := #[true, false, true, true, false, false, false, false, false, false, false, false, false, false, false, false, false, false, false, false]) rfl (by kernel_rfl) (by kernel_rfl) (by kernel_rfl) (fun _ _ _ h => h) (by kernel_rfl) (by rfl) (by assumption) ?_ ?_
                    rotate_left
                    · intro w hSw; (try dsimp only at hSw); first | (go_simp; done) | (go_simp; with_reducible rfl)
                    try simp only [Act.put, List.getElem_toArray, List.getElem_cons_zero, List.getElem_cons_succ, List.setIfInBounds_toArray, List.set_cons_zero, List.set_cons_succ]
                    refine wpAnyU_tk (by kernel_rfl) (i := 4) (v := ?_) (LN := #[true, false, true, true, true, false, false, false, false, false, false, false, false, false, false, false, false, false, false, false]) rfl (by kernel_rfl) (by kernel_rfl) (by kernel_rfl) (fun _ _ _ h => h) (by kernel_rfl) (by rfl) (by assumption) ?_ ?_
                    rotate_left
                    · intro w hSw; (try dsimp only at hSw); first | (go_simp; done) | (go_simp; with_reducible rfl)
                    try simp only [Act.put, List.getElem_toArray, List.getElem_cons_zero, List.getElem_cons_succ, List.setIfInBounds_toArray, List.set_cons_zero, List.set_cons_succ]
                    refine wpAnyU_tk (by kernel_rfl) (i := 5) (v := ?_) (LN := #[true, false, true, true, true, true, false, false, false, false, false, false, false, false, false, false, false, false, false, false]) rfl (by kernel_rfl) (by kernel_rfl) (by kernel_rfl) (fun _ _ _ h => h) (by kernel_rfl) (by rfl) (by assumption) ?_ ?_
                    rotate_left
                    · intro w hSw; (try dsimp only at hSw); first | (go_simp; done) | (go_simp; with_reducible rfl)
                    try simp only [Act.put, List.getElem_toArray, List.getElem_cons_zero, List.getElem_cons_succ, List.setIfInBounds_toArray, List.set_cons_zero, List.set_cons_succ]
                    refine wpAnyU_tk (by kernel_rfl) (i := 6) (v := ?_) (LN := #[true, false, true, true, true, true, true, false, false, false, false, false, false, false, false, false, false, false, false, false]) rfl (by kernel_rfl) (by kernel_rfl) (by kernel_rfl) (fun _ _ _ h => h) (by kernel_rfl) (by rfl) (by assumption) ?_ ?_
                    rotate_left
                    · intro w hSw; (try dsimp only at hSw); first | (go_simp; done) | (go_simp; with_reducible rfl)
                    try simp only [Act.put, List.getElem_toArray, List.getElem_cons_zero, List.getElem_cons_succ, List.setIfInBounds_toArray, List.set_cons_zero, List.set_cons_succ]
                    refine wpAnyU_tk (by kernel_rfl) (i := 7) (v := ?_) (LN := #[true, false, true, true, true, true, true, true, false, false, false, false, false, false, false, false, false, false, false, false]) rfl (by kernel_rfl) (by kernel_rfl) (by kernel_rfl) (fun _ _ _ h => h) (by kernel_rfl) (by rfl) (by assumption) ?_ ?_
                    rotate_left
                    · intro w hSw; (try dsimp only at hSw); first | (go_simp; done) | (go_simp; with_reducible rfl)
                    try simp only [Act.put, List.getElem_toArray, List.getElem_cons_zero, List.getElem_cons_succ, List.setIfInBounds_toArray, List.set_cons_zero, List.set_cons_succ]
                    refine wpAnyU_tk (by kernel_rfl) (i := 9) (v := ?_) (LN := #[true, false, true, true, true, true, true, true, false, true, false, false, false, false, false, false, false, false, false, false]) rfl (by kernel_rfl) (by kernel_rfl) (by kernel_rfl) (fun _ _ _ h => h) (by kernel_rfl) (by rfl) (by assumption) ?_ ?_
                    rotate_left
                    · intro w hSw; (try dsimp only at hSw); first | (go_simp; done) | (go_simp; with_reducible rfl)
                    try simp only [Act.put, List.getElem_toArray, List.getElem_cons_zero, List.getElem_cons_succ, List.setIfInBounds_toArray, List.set_cons_zero, List.set_cons_succ]
                    refine wpAnyU_tk (by kernel_rfl) (i := 10) (v := ?_) (LN := #[true, false, true, true, true, true, true, true, false, true, true, false, false, false, false, false, false, false, false, false]) rfl (by kernel_rfl) (by kernel_rfl) (by kernel_rfl) (fun _ _ _ h => h) (by kernel_rfl) (by rfl) (by assumption) ?_ ?_
                    rotate_left
                    · intro w hSw; (try dsimp only at hSw); first | (go_simp; done) | (go_simp; with_reducible rfl)
                    try simp only [Act.put, List.getElem_toArray, List.getElem_cons_zero, List.getElem_cons_succ, List.setIfInBounds_toArray, List.set_cons_zero, List.set_cons_succ]
                    refine wpAnyU_tk (by kernel_rfl) (i := 11) (v := ?_) (LN := #[true, false, true, true, true, true, true, true, false, true, true, true, false, false, false, false, false, false, false, false]) rfl (by kernel_rfl) (by kernel_rfl) (by kernel_rfl) (fun _ _ _ h => h) (by kernel_rfl) (by rfl) (by assumption) ?_ ?_
                    rotate_left
                    · intro w hSw; (try dsimp only at hSw); first | (go_simp; done) | (go_simp; with_reducible rfl)
                    try simp only [Act.put, List.getElem_toArray, List.getElem_cons_zero, List.getElem_cons_succ, List.setIfInBounds_toArray, List.set_cons_zero, List.set_cons_succ]
                    refine wpAnyU_tk (by kernel_rfl) (i := 12) (v := ?_) (LN := #[true, false, true, true, true, true, true, true, false, true, true, true, true, false, false, false, false, false, false, false]) rfl (by kernel_rfl) (by kernel_rfl) (by kernel_rfl) (fun _ _ _ h => h) (by kernel_rfl) (by rfl) (by assumption) ?_ ?_
                    rotate_left
                    · intro w hSw; (try dsimp only at hSw); first | (go_simp; done) | (go_simp; with_reducible rfl)
                    try simp only [Act.put, List.getElem_toArray, List.getElem_cons_zero, List.getElem_cons_succ, List.setIfInBounds_toArray, List.set_cons_zero, List.set_cons_succ]
                    refine wpAnyU_tk (by kernel_rfl) (i := 13) (v := ?_) (LN := #[true, false, true, true, true, true, true, true, false, true, true, true, true, true, false, false, false, false, false, false]) rfl (by kernel_rfl) (by kernel_rfl) (by kernel_rfl) (fun _ _ _ h => h) (by kernel_rfl) (by rfl) (by assumption) ?_ ?_
                    rotate_left
                    · intro w hSw; (try dsimp only at hSw); first | (go_simp; done) | (go_simp; with_reducible rfl)
                    try simp only [Act.put, List.getElem_toArray, List.getElem_cons_zero, List.getElem_cons_succ, List.setIfInBounds_toArray, List.set_cons_zero, List.set_cons_succ]
                    refine wpAnyU_tk (by kernel_rfl) (i := 14) (v := ?_) (LN := #[true, false, true, true, true, true, true, true, false, true, true, true, true, true, true, false, false, false, false, false]) rfl (by kernel_rfl) (by kernel_rfl) (by kernel_rfl) (fun _ _ _ h => h) (by kernel_rfl) (by rfl) (by assumption) ?_ ?_
                    rotate_left
                    · intro w hSw; (try dsimp only at hSw); first | (go_simp; done) | (go_simp; with_reducible rfl)
                    try simp only [Act.put, List.getElem_toArray, List.getElem_cons_zero, List.getElem_cons_succ, List.setIfInBounds_toArray, List.set_cons_zero, List.set_cons_succ]
                    refine wpAnyU_tk (by kernel_rfl) (i := 15) (v := ?_) (LN := #[true, false, true, true, true, true, true, true, false, true, true, true, true, true, true, true, false, false, false, false]) rfl (by kernel_rfl) (by kernel_rfl) (by kernel_rfl) (fun _ _ _ h => h) (by kernel_rfl) (by rfl) (by assumption) ?_ ?_
                    rotate_left
                    · intro w hSw; (try dsimp only at hSw); first | (go_simp; done) | (go_simp; with_reducible rfl)
                    try simp only [Act.put, List.getElem_toArray, List.getElem_cons_zero, List.getElem_cons_succ, List.setIfInBounds_toArray, List.set_cons_zero, List.set_cons_succ]
                    refine wpAnyU_one (by decide) (i := 1) (LN := #[true, true, true, true, true, true, true, true, false, true, true, true, true, true, true, true, false, false, false, false]) (by kernel_rfl) rfl (by kernel_rfl) ?_
                    intro K hK
                    go_simp
                    have S11 := Sat.own_new (n := 0) (cap := 0) (size := 2) (xs := []) (post := []) (S10.alloc [] 58) rfl (Nat.le_refl _) (by unfold maxLen; omega) (by simp)
                    refine hK.out _ _ (S11.cell 2 rfl 4 : _) ?_
                    clear hK K hHeld
                    intro hHeld
                    try simp only [Act.put, List.getElem_toArray, List.getElem_cons_zero, List.getElem_cons_succ, List.setIfInBounds_toArray, List.set_cons_zero, List.set_cons_succ]
                    refine wpAnyU_one (by decide) (i := 8) (LN := #[true, true, true, true, true, true, true, true, true, true, true, true, true, true, true, true, false, false, false, false]) (by kernel_rfl) rfl (by kernel_rfl) ?_
                    intro K hK
                    refine step_append_sat rfl _ _ _ rfl 58 k0 _ 2 32 Try.underlying53 hik kz0 kz1 kz2 rfl (by decide) S11 rfl (m := kk) rfl ((S11.sel [3]).own_rd.take (kk * 2)) (by rw [List.length_take, wayV_length HPS.out.2.2]; omega) (fun u hu => wayV_one _ _ u (List.mem_of_mem_take hu)) (by have := HLC.out; unfold maxLen; omega) (by have := HLC.out; omega) ?_
                    intro ya yc w12 S12
                    rw [Nat.zero_add] at S12 ⊢
                    refine hK.out _ _ (S12.cell 2 rfl 4 : _) ?_
                    clear hK K hHeld
                    intro hHeld
                    try simp only [Act.put, List.getElem_toArray, List.getElem_cons_zero, List.getElem_cons_succ, List.setIfInBounds_toArray, List.set_cons_zero, List.set_cons_succ]
                    refine wpAnyU_one (by decide) (i := 16) (LN := #[true, true, true, true, true, true, true, true, true, true, true, true, true, true, true, true, true, false, false, false]) (by kernel_rfl) rfl (by kernel_rfl) ?_
                    intro K hK
                    refine step_append_sat rfl _ _ _ rfl 58 k0 _ 2 32 Try.underlying53 hik kz0 kz1 kz2 rfl (by decide) S12 rfl (m := 0) rfl (news := (wayV ps hs).drop (k1 * 2)) (HRD.out _ _ (S12.sel [3])) (by rw [List.length_drop, wayV_length HPS.out.2.2]; have := HLC.out; omega) (fun u hu => wayV_one _ _ u (List.mem_of_mem_drop hu)) (by have := HLC.out; unfold maxLen; omega) (by have := HLC.out; omega) ?_
                    intro yd ye w13 S13
                    refine hK.out _ _ (S13.cell 2 rfl 4 : _) ?_
                    clear hK K hHeld
                    intro hHeld
                    try simp only [Act.put, List.getElem_toArray, List.getElem_cons_zero, List.getElem_cons_succ, List.setIfInBounds_toArray, List.set_cons_zero, List.set_cons_succ]
                    refine wpAnyU_tk (by kernel_rfl) (i := 17) (v := ?_) (LN := #[true, true, true, true, true, true, true, true, true, true, true, true, true, true, true, true, true, true, false, false]) rfl (by kernel_rfl) (by kernel_rfl) (by kernel_rfl) (fun _ _ _ h => h) (by kernel_rfl) (by rfl) (by assumption) ?_ ?_
                    rotate_left
                    · intro w hSw; (try dsimp only at hSw); first | (go_simp; done) | (go_simp; with_reducible rfl)
                    try simp only [Act.put, List.getElem_toArray, List.getElem_cons_zero, List.getElem_cons_succ, List.setIfInBounds_toArray, List.set_cons_zero, List.set_cons_succ]
                    refine wpAnyU_tk (by kernel_rfl) (i := 18) (v := ?_) (LN := #[true, true, true, true, true, true, true, true, true, true, true, true, true, true, true, true, true, true, true, false]) rfl (by kernel_rfl) (by kernel_rfl) (by kernel_rfl) (fun _ _ _ h => h) (by kernel_rfl) (by rfl) (by assumption) ?_ ?_
                    rotate_left
                    · intro w hSw; (try dsimp only at hSw); first | (go_simp; done) | (go_simp; with_reducible rfl)
                    try simp only [Act.put, List.getElem_toArray, List.getElem_cons_zero, List.getElem_cons_succ, List.setIfInBounds_toArray, List.set_cons_zero, List.set_cons_succ]
                    refine wpAnyU_fin (i := 19) (LN := #[true, true, true, true, true, true, true, true, true, true, true, true, true, true, true, true, true, true, true, true]) (by kernel_rfl) rfl (by kernel_rfl) ?_
                    intro K hK
                    have n4 := S13.cell 2 rfl 4
                    have m4 := S13.frozen 2 rfl 4
                    simp only [List.getElem?_cons_zero, List.getElem?_cons_succ] at n4
                    have S14 := S13.setCell (k := 4) (v := .slice yd (kk + (0)) ye) 2 rfl
                    go_simp
                    refine hK.out _ _ ?_
                    clear hK K hHeld
                    try simp only [Act.put, List.getElem_toArray, List.getElem_cons_zero, List.getElem_cons_succ, List.setIfInBounds_toArray, List.set_cons_zero, List.set_cons_succ]
                    refine ⟨by kernel_rfl, ?_⟩
                    try simp only [Act.put, List.getElem_toArray, List.getElem_cons_zero, List.getElem_cons_succ, List.setIfInBounds_toArray, List.set_cons_zero, List.set_cons_succ]
                    clear n4 m4 S10 S11 S12
                    generalize World.setCell w13 _ _ = w9 at S14 ⊢
                    clear S13
                    have S15 := (S14.sel [3]).tail.sel [3]
                    clear S14
                    obtain ⟨S16, -⟩ := rowsB_pick (k := kk) HPS.out.2.1 (r := p) (by rw [List.getElem?_map, HPS.out.1]; rfl) S15
                    have e1 : kk + (0) = (ps.take kk ++ ps.drop (kk + 1)).length := by rw [List.length_append, List.length_take, List.length_drop]; have := HLC.out; omega
                    have e2 : [] ++ (wayV ps hs).take (kk * 2) ++ (wayV ps hs).drop (k1 * 2) = wayV (ps.take kk ++ ps.drop (kk + 1)) (hs.take kk ++ hs.drop (kk + 1)) := by
                      rw [List.nil_append, wayV_append (by rw [List.length_take, List.length_take, HPS.out.2.2]), wayV_take, ← HLC.out.2.2, wayV_drop]
                    have e3 : (ps.map (·.2)).take kk ++ (ps.map (·.2)).drop (kk + 1) = (ps.take kk ++ ps.drop (kk + 1)).map (·.2) := by rw [List.map_append, List.map_take, List.map_drop]
                    rw [e1, e2, e3] at S16
                    have S17 := WAY_in rfl (S16.sel [2, 1])
                    have S18 : Sat w w9 (blk pp [.int .i64 tg, .slice pa p.length pc] 58 :: BK x p0 p1 q0 q1 (.slice yd (ps.take kk ++ ps.drop (kk + 1)).length ye) :: WAY yd (ps.take kk ++ ps.drop (kk + 1)).length ye (ps.take kk ++ ps.drop (kk + 1)) :: sbs pa p.length pc p :: PL p0 sa :: PL p1 sb :: brs aa ca.length na ca :: brs ab cb.length nb cb :: blk gc [.slice aa ca.length na, .slice ab cb.length nb] 48 :: blk gs [.int .i64 ka, .int .i64 kb] 49 :: blk gg [.slice ao la acap, .slice bo lb bcap] 48 :: DL q0 (LS.new 9) :: DL q1 (LS.new 9) :: []) := S17.sel [2, 2, 0]
                    have HY4 : Hid ((∀ q ∈ ps.take kk ++ ps.drop (kk + 1), q ∈ ps) ∧ (ps.take kk ++ ps.drop (kk + 1)).length ≤ ps.length) := by
                      refine ⟨fun q hq => ?_, by rw [List.length_append, List.length_take, List.length_drop]; omega⟩
                      rcases List.mem_append.1 hq with h | h
                      · exact List.mem_of_mem_take h
                      · exact List.mem_of_mem_drop h
                    clear S15 S16 S17 e1 e2 e3
                    generalize ps.take kk ++ ps.drop (kk + 1) = ps' at S18 HY4 ⊢
                    have HY0 : Hid (p.length ≤ pc) := (sbs_rd (S18.sel [3])).2.2.1
                    have S9 := S18
                    have HSP := HPS
                    clear HLC HRD hlc1 hk10 hk11 hkc HPS HCW S18
                    generalize hyd : yd = ya2 at S9 ⊢
                    clear hyd
                    by_cases h6 : v % 8 = 6
                    · have hb6 : (bits .and .i64 v 7 == 6) = true := by rw [hv7, h6]; rfl
                      have cz := HCZ.out _ S9.below
                      clear hv7 h7 h6
                      have HOS := Lib.hid (HO.out.sub HY4.out.1 HY4.out.2).next
                      go_wp2_with fail
                      exact ⟨⟨t + 1, sa, sb, ka, kb, ps', ca, cb, aa, ab, na, nb, by omega, by omega, by go_num, HOS.out, BW2_open.2 ⟨ya2, ye, (S9.sel [3]).tail.tail⟩⟩, by simp [intOf]; omega⟩
                    have hb6 : (bits .and .i64 v 7 == 6) = false := by rw [hv7]; simpa using h6
                    have S10 : Sat w w9 (blk pp [.int .i64 tg, .slice pa p.length pc] 58 :: BK x p0 p1 q0 q1 (.slice ya2 ps'.length ye) :: star (WAY ya2 ps'.length ye ps') (sbs pa p.length pc p) :: _) := ((Sat.star.2 (S9.sel [2, 2])).sel [1, 1])
                    have HY1 : Hid (∀ w' M, Sat w w' (star (WAY ya2 ps'.length ye ps') (sbs pa p.length pc p) :: M) → Rd w' pa (bv p)) := fun w' M h => ((Sat.star.1 h).sel [1]).own_rd
                    have HY2 : Hid (∀ w' M, Sat w w' (star (WAY ya2 ps'.length ye ps') (sbs pa p.length pc p) :: M) → Sat w w' (WAY ya2 ps'.length ye ps' :: M)) := fun w' M h => (((Sat.star.1 h).sel [1]).tail)
                    generalize star (WAY ya2 ps'.length ye ps') (sbs pa p.length pc p) = Y at S10 HY1 HY2
                    clear S9 h7 h6 hv7
                  rotate_left
                  focus
                    have hcn : ¬ wc = k1 := by omega
                    have HRD : Hid (∀ (w' : World) (M : List Asn), Sat w w' (slc 58 2 (some ⟨wb, wo, none⟩) ps.length wc (wayV ps hs) :: M) → Rd w' (some ⟨wb, wo + k1 * 2, none⟩) ((wayV ps hs).drop (k1 * 2))) := by
                      intro w' M h
                      exact h.own_rd.drop (k1 * 2)
                    refine wp_region_drawn (N := 20) (LN := #[false, false, false, false, false, false, false, false, false, false, false, false, false, false, false, false, false, false, false, false]) (by kernel_rfl) (by kernel_rfl) (by kernel_rfl) ?_
                    have S10 := S9.drew
                    generalize w8.drew = w10 at S10 ⊢
                    refine wpAny_until 19 (fun w' => w'.cell? ⟨x, 4, none⟩ = some (.slice (some ⟨wb, wo, none⟩) ps.length wc)) (S10.cell 1 rfl 4 : _) (fun hHeld => ?_)
                    refine wpAnyU_tk (by kernel_rfl) (i := 0) (v := ?_) (LN := #[true, false, false, false, false, false, false, false, false, false, false, false, false, false, false, false, false, false, false, false]) rfl (by kernel_rfl) (by kernel_rfl) (by kernel_rfl) (fun _ _ _ h => h) (by kernel_rfl) (by rfl) (by assumption) ?_ ?_
                    rotate_left
                    · intro w hSw; (try dsimp only at hSw); first | (go_simp; done) | (go_simp; with_reducible rfl)
                    try simp only [Act.put, List.getElem_toArray, List.getElem_cons_zero, List.getElem_cons_succ, List.setIfInBounds_toArray, List.set_cons_zero, List.set_cons_succ]
                    refine wpAnyU_tk (by kernel_rfl) (i := 2) (v := ?_) (LN := #[true, false, true, false, false, false, false, false, false, false, false, false, false, false, false, false, false, false, false, false]) rfl (by kernel_rfl) (by kernel_rfl) (by kernel_rfl) (fun _ _ _ h => h) (by kernel_rfl) (by rfl) (by assumption) ?_ ?_
                    rotate_left
                    · intro w hSw; (try dsimp only at hSw); first | (go_simp; done) | (go_simp; with_reducible rfl)
                    try simp only [Act.put, List.getElem_toArray, List.getElem_cons_zero, List.getElem_cons_succ, List.setIfInBounds_toArray, List.set_cons_zero, List.set_cons_succ]
                    refine wpAnyU_tk (by kernel_rfl) (i := 3) (v := ?_) (LN := #[true, false, true, true, false, false, false, false, false, false, false, false, false, false, false, false, false, false, false, false]) rfl (by kernel_rfl) (by kernel_rfl) (by kernel_rfl) (fun _ _ _ h => h) (by kernel_rfl) (by rfl) (by assumption) ?_ ?_
                    rotate_left
                    · intro w hSw; (try dsimp only at hSw); first | (go_simp; done) | (go_simp; with_reducible rfl)
                    try simp only [Act.put, List.getElem_toArray, List.getElem_cons_zero, List.getElem_cons_succ, List.setIfInBounds_toArray, List.set_cons_zero, List.set_cons_succ]
                    refine wpAnyU_tk (by kernel_rfl) (i := 4) (v := ?_) (LN := #[true, false, true, true, true, false, false, false, false, false, false, false, false, false, false, false, false, false, false, false]) rfl (by kernel_rfl) (by kernel_rfl) (by kernel_rfl) (fun _ _ _ h => h) (by kernel_rfl) (by rfl) (by assumption) ?_ ?_
                    rotate_left
                    · intro w hSw; (try dsimp only at hSw); first | (go_simp; done) | (go_simp; with_reducible rfl)
                    try simp only [Act.put, List.getElem_toArray, List.getElem_cons_zero, List.getElem_cons_succ, List.setIfInBounds_toArray, List.set_cons_zero, List.set_cons_succ]
                    refine wpAnyU_tk (by kernel_rfl) (i := 5) (v := ?_) (LN := #[true, false, true, true, true, true, false, false, false, false, false, false, false, false, false, false, false, false, false, false]) rfl (by kernel_rfl) (by kernel_rfl) (by kernel_rfl) (fun _ _ _ h => h) (by kernel_rfl) (by rfl) (by assumption) ?_ ?_
                    rotate_left
                    · intro w hSw; (try dsimp only at hSw); first | (go_simp; done) | (go_simp; with_reducible rfl)
                    try simp only [Act.put, List.getElem_toArray, List.getElem_cons_zero, List.getElem_cons_succ, List.setIfInBounds_toArray, List.set_cons_zero, List.set_cons_succ]
                    refine wpAnyU_tk (by kernel_rfl) (i := 6) (v := ?_) (LN := #[true, false, true, true, true, true, true, false, false, false, false, false, false, false, false, false, false, false, false, false]) rfl (by kernel_rfl) (by kernel_rfl) (by kernel_rfl) (fun _ _ _ h => h) (by kernel_rfl) (by rfl) (by assumption) ?_ ?_
                    rotate_left
                    · intro w hSw; (try dsimp only at hSw); first | (go_simp; done) | (go_simp; with_reducible rfl)
                    try simp only [Act.put, List.getElem_toArray, List.getElem_cons_zero, List.getElem_cons_succ, List.setIfInBounds_toArray, List.set_cons_zero, List.set_cons_succ]
                    refine wpAnyU_tk (by kernel_rfl) (i := 7) (v := ?_) (LN := #[true, false, true, true, true, true, true, true, false, false, false, false, false, false, false, false, false, false, false, false]) rfl (by kernel_rfl) (by kernel_rfl) (by kernel_rfl) (fun _ _ _ h => h) (by kernel_rfl) (by rfl) (by assumption) ?_ ?_
                    rotate_left
                    · intro w hSw; (try dsimp only at hSw); first | (go_simp; done) | (go_simp; with_reducible rfl)
                    try simp only [Act.put, List.getElem_toArray, List.getElem_cons_zero, List.getElem_cons_succ, List.setIfInBounds_toArray, List.set_cons_zero, List.set_cons_succ]
                    refine wpAnyU_tk (by kernel_rfl) (i := 9) (v := ?_) (LN := #[true, false, true, true, true, true, true, true, false, true, false, false, false, false, false, false, false, false, false, false]) rfl (by kernel_rfl) (by kernel_rfl) (by kernel_rfl) (fun _ _ _ h => h) (by kernel_rfl) (by rfl) (by assumption) ?_ ?_
                    rotate_left
                    · intro w hSw; (try dsimp only at hSw); first | (go_simp; done) | (go_simp; with_reducible rfl)
                    try simp only [Act.put, List.getElem_toArray, List.getElem_cons_zero, List.getElem_cons_succ, List.setIfInBounds_toArray, List.set_cons_zero, List.set_cons_succ]
                    refine wpAnyU_tk (by kernel_rfl) (i := 10) (v := ?_) (LN := #[true, false, true, true, true, true, true, true, false, true, true, false, false, false, false, false, false, false, false, false]) rfl (by kernel_rfl) (by kernel_rfl) (by kernel_rfl) (fun _ _ _ h => h) (by kernel_rfl) (by rfl) (by assumption) ?_ ?_
                    rotate_left
                    · intro w hSw; (try dsimp only at hSw); first | (go_simp; done) | (go_simp; with_reducible rfl)
                    try simp only [Act.put, List.getElem_toArray, List.getElem_cons_zero, List.getElem_cons_succ, List.setIfInBounds_toArray, List.set_cons_zero, List.set_cons_succ]
                    refine wpAnyU_tk (by kernel_rfl) (i := 11) (v := ?_) (LN := #[true, false, true, true, true, true, true, true, false, true, true, true, false, false, false, false, false, false, false, false]) rfl (by kernel_rfl) (by kernel_rfl) (by kernel_rfl) (fun _ _ _ h => h) (by kernel_rfl) (by rfl) (by assumption) ?_ ?_
                    rotate_left
                    · intro w hSw; (try dsimp only at hSw); first | (go_simp; done) | (go_simp; with_reducible rfl)
                    try simp only [Act.put, List.getElem_toArray, List.getElem_cons_zero, List.getElem_cons_succ, List.setIfInBounds_toArray, List.set_cons_zero, List.set_cons_succ]
                    refine wpAnyU_tk (by kernel_rfl) (i := 12) (v := ?_) (LN := #[true, false, true, true, true, true, true, true, false, true, true, true, true, false, false, false, false, false, false, false]) rfl (by kernel_rfl) (by kernel_rfl) (by kernel_rfl) (fun _ _ _ h => h) (by kernel_rfl) (by rfl) (by assumption) ?_ ?_
                    rotate_left
                    · intro w hSw; (try dsimp only at hSw); first | (go_simp; done) | (go_simp; with_reducible rfl)
                    try simp only [Act.put, List.getElem_toArray, List.getElem_cons_zero, List.getElem_cons_succ, List.setIfInBounds_toArray, List.set_cons_zero, List.set_cons_succ]
                    refine wpAnyU_tk (by kernel_rfl) (i := 13) (v := ?_) (LN := #[true, false, true, true, true, true, true, true, false, true, true, true, true, true, false, false, false, false, false, false]) rfl (by kernel_rfl) (by kernel_rfl) (by kernel_rfl) (fun _ _ _ h => h) (by kernel_rfl) (by rfl) (by assumption) ?_ ?_
                    rotate_left
                    · intro w hSw; (try dsimp only at hSw); first | (go_simp; done) | (go_simp; with_reducible rfl)
                    try simp only [Act.put, List.getElem_toArray, List.getElem_cons_zero, List.getElem_cons_succ, List.setIfInBounds_toArray, List.set_cons_zero, List.set_cons_succ]
                    refine wpAnyU_tk (by kernel_rfl) (i := 14) (v := ?_) (LN := #[true, false, true, true, true, true, true, true, false, true, true, true, true, true, true, false, false, false, false, false]) rfl (by kernel_rfl) (by kernel_rfl) (by kernel_rfl) (fun _ _ _ h => h) (by kernel_rfl) (by rfl) (by assumption) ?_ ?_
                    rotate_left
                    · intro w hSw; (try dsimp only at hSw); first | (go_simp; done) | (go_simp; with_reducible rfl)
                    try simp only [Act.put, List.getElem_toArray, List.getElem_cons_zero, List.getElem_cons_succ, List.setIfInBounds_toArray, List.set_cons_zero, List.set_cons_succ]
                    refine wpAnyU_tk (by kernel_rfl) (i := 15) (v := ?_) (LN := #[true, false, true, true, true, true, true, true, false, true, true, true, true, true, true, true, false, false, false, false]) rfl (by kernel_rfl) (by kernel_rfl) (by kernel_rfl) (fun _ _ _ h => h) (by kernel_rfl) (by rfl) (by assumption) ?_ ?_
                    rotate_left
                    · intro w hSw; (try dsimp only at hSw); first | (go_simp; done) | (go_simp; with_reducible rfl)
                    try simp only [Act.put, List.getElem_toArray, List.getElem_cons_zero, List.getElem_cons_succ, List.setIfInBounds_toArray, List.set_cons_zero, List.set_cons_succ]
                    refine wpAnyU_one (by decide) (i := 1) (LN := #[true, true, true, true, true, true, true, true, false, true, true, true, true, true, true, true, false, false, false, false]) (by kernel_rfl) rfl (by kernel_rfl) ?_
                    intro K hK
                    go_simp
                    have S11 := Sat.own_new (n := 0) (cap := 0) (size := 2) (xs := []) (post := []) (S10.alloc [] 58) rfl (Nat.le_refl _) (by unfold maxLen; omega) (by simp)
                    refine hK.out _ _ (S11.cell 2 rfl 4 : _) ?_
                    clear hK K hHeld
                    intro hHeld
                    try simp only [Act.put, List.getElem_toArray, List.getElem_cons_zero, List.getElem_cons_succ, List.setIfInBounds_toArray, List.set_cons_zero, List.set_cons_succ]
                    refine wpAnyU_one (by decide) (i := 8) (LN := #[true, true, true, true, true, true, true, true, true, true, true, true, true, true, true, true, false, false, false, false]) (by kernel_rfl) rfl (by kernel_rfl) ?_
                    intro K hK
                    refine step_append_sat rfl _ _ _ rfl 58 k0 _ 2 32 Try.underlying53 hik kz0 kz1 kz2 rfl (by decide) S11 rfl (m := kk) rfl ((S11.sel [3]).own_rd.take (kk * 2)) (by rw [List.length_take, wayV_length HPS.out.2.2]; omega) (fun u hu => wayV_one _ _ u (List.mem_of_mem_take hu)) (by have := HLC.out; unfold maxLen; omega) (by have := HLC.out; omega) ?_
                    intro ya yc w12 S12
                    rw [Nat.zero_add] at S12 ⊢
                    refine hK.out _ _ (S12.cell 2 rfl 4 : _) ?_
                    clear hK K hHeld
                    intro hHeld
                    try simp only [Act.put, List.getElem_toArray, List.getElem_cons_zero, List.getElem_cons_succ, List.setIfInBounds_toArray, List.set_cons_zero, List.set_cons_succ]
                    refine wpAnyU_one (by decide) (i := 16) (LN := #[true, true, true, true, true, true, true, true, true, true, true, true, true, true, true, true, true, false, false, false]) (by kernel_rfl) rfl (by kernel_rfl) ?_
                    intro K hK
                    refine step_append_sat rfl _ _ _ rfl 58 k0 _ 2 32 Try.underlying53 hik kz0 kz1 kz2 rfl (by decide) S12 rfl (m := ps.length - k1) rfl (news := (wayV ps hs).drop (k1 * 2)) (HRD.out _ _ (S12.sel [3])) (by rw [List.length_drop, wayV_length HPS.out.2.2]; have := HLC.out; omega) (fun u hu => wayV_one _ _ u (List.mem_of_mem_drop hu)) (by have := HLC.out; unfold maxLen; omega) (by have := HLC.out; omega) ?_
                    intro yd ye w13 S13
                    refine hK.out _ _ (S13.cell 2 rfl 4 : _) ?_
                    clear hK K hHeld
                    intro hHeld
                    try simp only [Act.put, List.getElem_toArray, List.getElem_cons_zero, List.getElem_cons_succ, List.setIfInBounds_toArray, List.set_cons_zero, List.set_cons_succ]
                    refine wpAnyU_tk (by kernel_rfl) (i := 17) (v := ?_) (LN := #[true, true, true, true, true, true, true, true, true, true, true, true, true, true, true, true, true, true, false, false]) rfl (by kernel_rfl) (by kernel_rfl) (by kernel_rfl) (fun _ _ _ h => h) (by kernel_rfl) (by rfl) (by assumption) ?_ ?_
                    rotate_left
                    · intro w hSw; (try dsimp only at hSw); first | (go_simp; done) | (go_simp; with_reducible rfl)
                    try simp only [Act.put, List.getElem_toArray, List.getElem_cons_zero, List.getElem_cons_succ, List.setIfInBounds_toArray, List.set_cons_zero, List.set_cons_succ]
                    refine wpAnyU_tk (by kernel_rfl) (i := 18) (v := ?_) (LN := #[true, true, true, true, true, true, true, true, true, true, true, true, true, true, true, true, true, true, true, false]) rfl (by kernel_rfl) (by kernel_rfl) (by kernel_rfl) (fun _ _ _ h => h) (by kernel_rfl) (by rfl) (by assumption) ?_ ?_
                    rotate_left
                    · intro w hSw; (try dsimp only at hSw); first | (go_simp; done) | (go_simp; with_reducible rfl)
                    try simp only [Act.put, List.getElem_toArray, List.getElem_cons_zero, List.getElem_cons_succ, List.setIfInBounds_toArray, List.set_cons_zero, List.set_cons_succ]
                    refine wpAnyU_fin (i := 19) (LN := #[true, true, true, true, true, true, true, true, true, true, true, true, true, true, true, true, true, true, true, true]) (by kernel_rfl) rfl (by kernel_rfl) ?_
                    intro K hK
                    have n4 := S13.cell 2 rfl 4
                    have m4 := S13.frozen 2 rfl 4
                    simp only [List.getElem?_cons_zero, List.getElem?_cons_succ] at n4
                    have S14 := S13.setCell (k := 4) (v := .slice yd (kk + (ps.length - k1)) ye) 2 rfl
                    go_simp
                    refine hK.out _ _ ?_
                    clear hK K hHeld
                    try simp only [Act.put, List.getElem_toArray, List.getElem_cons_zero, List.getElem_cons_succ, List.setIfInBounds_toArray, List.set_cons_zero, List.set_cons_succ]
                    refine ⟨by kernel_rfl, ?_⟩
                    try simp only [Act.put, List.getElem_toArray, List.getElem_cons_zero, List.getElem_cons_succ, List.setIfInBounds_toArray, List.set_cons_zero, List.set_cons_succ]
                    clear n4 m4 S10 S11 S12
                    generalize World.setCell w13 _ _ = w9 at S14 ⊢
                    clear S13
                    have S15 := (S14.sel [3]).tail.sel [3]
                    clear S14
                    obtain ⟨S16, -⟩ := rowsB_pick (k := kk) HPS.out.2.1 (r := p) (by rw [List.getElem?_map, HPS.out.1]; rfl) S15
                    have e1 : kk + (ps.length - k1) = (ps.take kk ++ ps.drop (kk + 1)).length := by rw [List.length_append, List.length_take, List.length_drop]; have := HLC.out; omega
                    have e2 : [] ++ (wayV ps hs).take (kk * 2) ++ (wayV ps hs).drop (k1 * 2) = wayV (ps.take kk ++ ps.drop (kk + 1)) (hs.take kk ++ hs.drop (kk + 1)) := by
                      rw [List.nil_append, wayV_append (by rw [List.length_take, List.length_take, HPS.out.2.2]), wayV_take, ← HLC.out.2.2, wayV_drop]
                    have e3 : (ps.map (·.2)).take kk ++ (ps.map (·.2)).drop (kk + 1) = (ps.take kk ++ ps.drop (kk + 1)).map (·.2) := by rw [List.map_append, List.map_take, List.map_drop]
                    rw [e1, e2, e3] at S16
                    have S17 := WAY_in rfl (S16.sel [2, 1])
                    have S18 : Sat w w9 (blk pp [.int .i64 tg, .slice pa p.length pc] 58 :: BK x p0 p1 q0 q1 (.slice yd (ps.take kk ++ ps.drop (kk + 1)).length ye) :: WAY yd (ps.take kk ++ ps.drop (kk + 1)).length ye (ps.take kk ++ ps.drop (kk + 1)) :: sbs pa p.length pc p :: PL p0 sa :: PL p1 sb :: brs aa ca.length na ca :: brs ab cb.length nb cb :: blk gc [.slice aa ca.length na, .slice ab cb.length nb] 48 :: blk gs [.int .i64 ka, .int .i64 kb] 49 :: blk gg [.slice ao la acap, .slice bo lb bcap] 48 :: DL q0 (LS.new 9) :: DL q1 (LS.new 9) :: []) := S17.sel [2, 2, 0]
                    have HY4 : Hid ((∀ q ∈ ps.take kk ++ ps.drop (kk + 1), q ∈ ps) ∧ (ps.take kk ++ ps.drop (kk + 1)).length ≤ ps.length) := by
                      refine ⟨fun q hq => ?_, by rw [List.length_append, List.length_take, List.length_drop]; omega⟩
                      rcases List.mem_append.1 hq with h | h
                      · exact List.mem_of_mem_take h
                      · exact List.mem_of_mem_drop h
                    clear S15 S16 S17 e1 e2 e3
                    generalize ps.take kk ++ ps.drop (kk + 1) = ps' at S18 HY4 ⊢
                    have HY0 : Hid (p.length ≤ pc) := (sbs_rd (S18.sel [3])).2.2.1
                    have S9 := S18
                    have HSP := HPS
                    clear HLC HRD hlc1 hk10 hk11 hkc HPS HCW S18 hcn hck
                    generalize hyd : yd = ya2 at S9 ⊢
                    clear hyd
                    by_cases h6 : v % 8 = 6
                    · have hb6 : (bits .and .i64 v 7 == 6) = true := by rw [hv7, h6]; rfl
                      have cz := HCZ.out _ S9.below
                      clear hv7 h7 h6
                      have HOS := Lib.hid (HO.out.sub HY4.out.1 HY4.out.2).next
                      go_wp2_with fail
                      exact ⟨⟨t + 1, sa, sb, ka, kb, ps', ca, cb, aa, ab, na, nb, by omega, by omega, by go_num, HOS.out, BW2_open.2 ⟨ya2, ye, (S9.sel [3]).tail.tail⟩⟩, by simp [intOf]; omega⟩
                    have hb6 : (bits .and .i64 v 7 == 6) = false := by rw [hv7]; simpa using h6
                    have S10 : Sat w w9 (blk pp [.int .i64 tg, .slice pa p.length pc] 58 :: BK x p0 p1 q0 q1 (.slice ya2 ps'.length ye) :: star (WAY ya2 ps'.length ye ps') (sbs pa p.length pc p) :: _) := ((Sat.star.2 (S9.sel [2, 2])).sel [1, 1])
                    have HY1 : Hid (∀ w' M, Sat w w' (star (WAY ya2 ps'.length ye ps') (sbs pa p.length pc p) :: M) → Rd w' pa (bv p)) := fun w' M h => ((Sat.star.1 h).sel [1]).own_rd
                    have HY2 : Hid (∀ w' M, Sat w w' (star (WAY ya2 ps'.length ye ps') (sbs pa p.length pc p) :: M) → Sat w w' (WAY ya2 ps'.length ye ps' :: M)) := fun w' M h => (((Sat.star.1 h).sel [1]).tail)
                    generalize star (WAY ya2 ps'.length ye ps') (sbs pa p.length pc p) = Y at S10 HY1 HY2
                    clear S9 h7 h6 hv7
                all_goals
                  have cz := HCZ.out _ S10.below
                  have hp0 := S10.cell 0 rfl 0
                  simp only [List.getElem?_cons_zero, List.getElem?_cons_succ] at hp0
                  have ht1 := (HO.out.way (by omega) (List.mem_of_getElem? HSP.out.1)).1
                  dsimp only at ht1
                  rcases ht1 with rfl | rfl
                  · as_aux_lemma =>
                      have hin : ((1 : Int), p) ∈ ps := List.mem_of_getElem? HSP.out.1
                      have HE := HO.out.hear1 (by omega) hin HY4.out.1 HY4.out.2
                      have hok := HO.out.e.okb
                      have hsm := hok.hearOut (by omega) p
                      have hol := hear_outs_len (s := sb) (b := p)
                      have hpb := HO.out.way (by omega) hin
                      dsimp only at hpb
                      have hpl := HO.out.len
                      have HPB := Lib.hid hpb.2
                      have hps' : ps'.length ≤ 100000000 := by have := HY4.out.2; omega
                      have HHA := Lib.hid (fun (w' : World) (M : List Asn) (h : Sat w w' (PL p1 sb :: M)) (hR : ∀ w', Sat w w' M → Rd w' pa (bv p)) => hear_any h hok (by omega) hR rfl HPB.out.1 HY0.out (by have := HPB.out.2; omega))
                      generalize hearP sb p = R at HE hsm hol HHA
                      obtain ⟨rr, oo, s2⟩ := R
                      dsimp only at HE hsm hol
                      obtain ⟨⟨hfa2, hkb2, -⟩, hfb2, hka2, -⟩ := HE.fin
                      rw [show (gr ys).length = lb from by show (ys.map _).length = lb; rw [List.length_map, HYL.out]] at hkb2
                      rw [show (gr xs).length = la from by show (xs.map _).length = la; rw [List.length_map, HXL.out]] at hka2
                      rw [List.length_append] at hfb2
                      have h800 := hL9.out.1
                      have HSM : Hid (∀ r ∈ oo, r.length ≤ 1000000) := fun r hr => by have := (hsm r hr).2; omega
                      have HE1 := Lib.hid HE
                      clear HE hok hsm hpb hin hpl HSP
                      go_upto_region 31 with fail
                      clear hp0 cz
                      refine wp_region_drawn (N := 14) (LN := #[false, false, false, false, false, false, false, false, false, false, false, false, false, false]) (by kernel_rfl) (by kernel_rfl) (by kernel_rfl) ?_
                      have S12 := S10.drew
                      generalize w9.drew = w12 at S12 ⊢
                      have hb0 := S12.cell 1 rfl 1
                      have hp1 := S12.cell 0 rfl 1
                      simp only [List.getElem?_cons_zero, List.getElem?_cons_succ] at hb0 hp1
                      refine wpAny_seg 0 8 6 14 #[true, true, true, true, true, true, true, true, false, false, false, false, false, false] (by kernel_rfl) (by kernel_rfl) ?_
                      simp only [List.take_succ_cons, List.take_zero, List.drop_succ_cons, List.drop_zero]
                      refine wpStill_step (fun K hK => ?_); go_simp; refine hK _ ?_; clear hK K
                      try simp only [Act.put, List.getElem_toArray, List.getElem_cons_zero, List.getElem_cons_succ, List.setIfInBounds_toArray, List.set_cons_zero, List.set_cons_succ]
                      refine wpStill_step (fun K hK => ?_); go_simp; refine hK _ ?_; clear hK K
                      try simp only [Act.put, List.getElem_toArray, List.getElem_cons_zero, List.getElem_cons_succ, List.setIfInBounds_toArray, List.set_cons_zero, List.set_cons_succ]
                      refine wpStill_step (fun K hK => ?_); go_simp; refine hK _ ?_; clear hK K
                      try simp only [Act.put, List.getElem_toArray, List.getElem_cons_zero, List.getElem_cons_succ, List.setIfInBounds_toArray, List.set_cons_zero, List.set_cons_succ]
                      refine wpStill_step (fun K hK => ?_); go_simp; refine hK _ ?_; clear hK K
                      try simp only [Act.put, List.getElem_toArray, List.getElem_cons_zero, List.getElem_cons_succ, List.setIfInBounds_toArray, List.set_cons_zero, List.set_cons_succ]
                      refine wpStill_step (fun K hK => ?_); go_simp; refine hK _ ?_; clear hK K
                      try simp only [Act.put, List.getElem_toArray, List.getElem_cons_zero, List.getElem_cons_succ, List.setIfInBounds_toArray, List.set_cons_zero, List.set_cons_succ]
                      refine wpStill_step (fun K hK => ?_); go_simp; refine hK _ ?_; clear hK K
                      try simp only [Act.put, List.getElem_toArray, List.getElem_cons_zero, List.getElem_cons_succ, List.setIfInBounds_toArray, List.set_cons_zero, List.set_cons_succ]
                      refine wpStill_step (fun K hK => ?_); go_simp; refine hK _ ?_; clear hK K
                      try simp only [Act.put, List.getElem_toArray, List.getElem_cons_zero, List.getElem_cons_succ, List.setIfInBounds_toArray, List.set_cons_zero, List.set_cons_succ]
                      refine wpStill_step (fun K hK => ?_); go_simp; refine hK _ ?_; clear hK K
                      try simp only [Act.put, List.getElem_toArray, List.getElem_cons_zero, List.getElem_cons_succ, List.setIfInBounds_toArray, List.set_cons_zero, List.set_cons_succ]
                      refine wpStill_nil ?_
                      refine wpAny_one (i := 8) (LN := #[true, true, true, true, true, true, true, true, true, false, false, false, false, false]) (by kernel_rfl) rfl (by kernel_rfl) ?_
                      intro K hK
                      go_simp
                      go_at_call 15
                      refine (HHA.out _ _ (S12.sel [4]) (fun w' h => HY1.out _ _ (h.sel [2]))).mono ?_
                      unfold HeardP
                      rintro e w13 ⟨ra, rc, oa, oc, rfl, S13⟩
                      dsimp only at S13 ⊢
                      go_wp2_with fail
                      refine hK.out _ _ ?_
                      clear hK K
                      try simp only [Act.put, List.getElem_toArray, List.getElem_cons_zero, List.getElem_cons_succ, List.setIfInBounds_toArray, List.set_cons_zero, List.set_cons_succ]
                      refine wpAny_loc (i := 9) (v := ?_) (LN := #[true, true, true, true, true, true, true, true, true, true, false, false, false, false]) rfl (by kernel_rfl) (by kernel_rfl) (by kernel_rfl) (fun _ _ _ h => h) (by kernel_rfl) (by rfl) ?_ ?_
                      rotate_left
                      · intro w; first | (go_simp; done) | (go_simp; with_reducible rfl)
                      try simp only [Act.put, List.getElem_toArray, List.getElem_cons_zero, List.getElem_cons_succ, List.setIfInBounds_toArray, List.set_cons_zero, List.set_cons_succ]
                      refine wpAny_loc (i := 10) (v := ?_) (LN := #[true, true, true, true, true, true, true, true, true, true, true, false, false, false]) rfl (by kernel_rfl) (by kernel_rfl) (by kernel_rfl) (fun _ _ _ h => h) (by kernel_rfl) (by rfl) ?_ ?_
                      rotate_left
                      · intro w; first | (go_simp; done) | (go_simp; with_reducible rfl)
                      try simp only [Act.put, List.getElem_toArray, List.getElem_cons_zero, List.getElem_cons_succ, List.setIfInBounds_toArray, List.set_cons_zero, List.set_cons_succ]
                      refine wpAny_loc (i := 11) (v := ?_) (LN := #[true, true, true, true, true, true, true, true, true, true, true, true, false, false]) rfl (by kernel_rfl) (by kernel_rfl) (by kernel_rfl) (fun _ _ _ h => h) (by kernel_rfl) (by rfl) ?_ ?_
                      rotate_left
                      · intro w; first | (go_simp; done) | (go_simp; with_reducible rfl)
                      try simp only [Act.put, List.getElem_toArray, List.getElem_cons_zero, List.getElem_cons_succ, List.setIfInBounds_toArray, List.set_cons_zero, List.set_cons_succ]
                      refine wpAny_loc (i := 12) (v := ?_) (LN := #[true, true, true, true, true, true, true, true, true, true, true, true, true, false]) rfl (by kernel_rfl) (by kernel_rfl) (by kernel_rfl) (fun _ _ _ h => h) (by kernel_rfl) (by rfl) ?_ ?_
                      rotate_left
                      · intro w; first | (go_simp; done) | (go_simp; with_reducible rfl)
                      try simp only [Act.put, List.getElem_toArray, List.getElem_cons_zero, List.getElem_cons_succ, List.setIfInBounds_toArray, List.set_cons_zero, List.set_cons_succ]
                      refine wpAny_loc (i := 13) (v := ?_) (LN := #[true, true, true, true, true, true, true, true, true, true, true, true, true, true]) rfl (by kernel_rfl) (by kernel_rfl) (by kernel_rfl) (fun _ _ _ h => h) (by kernel_rfl) (by rfl) ?_ ?_
                      rotate_left
                      · intro w; first | (go_simp; done) | (go_simp; with_reducible rfl)
                      try simp only [Act.put, List.getElem_toArray, List.getElem_cons_zero, List.getElem_cons_succ, List.setIfInBounds_toArray, List.set_cons_zero, List.set_cons_succ]
                      refine ⟨by kernel_rfl, ?_⟩
                      try simp only [Act.put, List.getElem_toArray, List.getElem_cons_zero, List.getElem_cons_succ, List.setIfInBounds_toArray, List.set_cons_zero, List.set_cons_succ]
                      clear hb0 hp1 S12 S10 hb6
                      have hg1 := S13.cell 9 rfl 1
                      simp only [List.getElem?_cons_zero, List.getElem?_cons_succ] at hg1
                      go_upto_region 33 with (first
                        | (at_builtin; (obtain ⟨hc, hcn, hcl, S14⟩ := brs_out (S13.sel [8]); obtain ⟨hr, hrn, hrl, S15⟩ := brs_out (S14.sel [2])); refine wpList_append_sat rfl (.tmp 162) (.tmp 163) _ rfl 29 i0 _ 1 24 Try.underlying25 hi hz0 hz1 hz2 rfl (by decide) (S15.sel [2]) rfl rfl S15.own_rd (by rw [List.length_map, hrl, Nat.mul_one]) (hv_one _) (by unfold maxLen; omega) (by omega) ?_; intro ca2 cc2 w16 S16; have S17 := brs_cat (n := cb.length) (m := rr.length) rfl rfl (S16.sel [0, 2, 1]); have hg2 := S17.cell 9 rfl 1; have hgf := S17.frozen 9 rfl 1; simp only [List.getElem?_cons_zero, List.getElem?_cons_succ] at hg2))
                      have S18 := S17.setCell (k := 1) (v := .slice ca2 (cb.length + rr.length) cc2) 9 rfl
                      generalize World.setCell w16 _ _ = w18 at S18 ⊢
                      clear hg1 hg2 hgf S13 S14 S15 S16 S17
                      have S19 := (BW2_open.2 ⟨ya2, ye, ((HY2.out _ _ (S18.sel [6])).sel [6])⟩).sel [0, 2]
                      have hd1 : decide ((kb : Int) < ((ca.length : Nat) : Int)) = false := decide_eq_false (by omega)
                      have hd2 : decide ((ka : Int) < ((cb.length + rr.length : Nat) : Int)) = false := decide_eq_false (by omega)
                      clear S18
                      go_wp2_with (first
                        | (go_at_call 23; refine (out1_any S19 HSM.out (by omega) hps').mono ?_; rintro e w20 ⟨rfl, S20⟩; have hq0 := S20.cell 9 rfl 0; have hq1 := S20.cell 9 rfl 1; have hr0 := S20.cell 8 rfl 0; have hr1 := S20.cell 8 rfl 1; simp only [List.set_cons_zero, List.set_cons_succ, List.getElem?_cons_zero, List.getElem?_cons_succ] at hq0 hq1 hr0 hr1))
                      have S21 := (S20.sel [1, 2, 3]).tail.tail.tail.sel [0, 2, 1, 1]
                      rw [← List.length_append] at S21
                      exact ⟨⟨t + 1, sa, s2, ka, kb, _, ca, cb ++ rr, aa, ca2, na, cc2, by omega, by omega, by go_num, HE1.out, S21⟩, by simp [intOf]; omega⟩
                  · as_aux_lemma =>
                      have hin : ((0 : Int), p) ∈ ps := List.mem_of_getElem? HSP.out.1
                      have HE := HO.out.hear0 (by omega) hin HY4.out.1 HY4.out.2
                      have hok := HO.out.e.oka
                      have hsm := hok.hearOut (by omega) p
                      have hol := hear_outs_len (s := sa) (b := p)
                      have hpb := HO.out.way (by omega) hin
                      dsimp only at hpb
                      have hpl := HO.out.len
                      have HPB := Lib.hid hpb.2
                      have hps' : ps'.length ≤ 100000000 := by have := HY4.out.2; omega
                      have HHA := Lib.hid (fun (w' : World) (M : List Asn) (h : Sat w w' (PL p0 sa :: M)) (hR : ∀ w', Sat w w' M → Rd w' pa (bv p)) => hear_any h hok (by omega) hR rfl HPB.out.1 HY0.out (by have := HPB.out.2; omega))
                      generalize hearP sa p = R at HE hsm hol HHA
                      obtain ⟨rr, oo, s2⟩ := R
                      dsimp only at HE hsm hol
                      obtain ⟨⟨hfa2, hkb2, -⟩, hfb2, hka2, -⟩ := HE.fin
                      rw [show (gr ys).length = lb from by show (ys.map _).length = lb; rw [List.length_map, HYL.out]] at hkb2
                      rw [show (gr xs).length = la from by show (xs.map _).length = la; rw [List.length_map, HXL.out]] at hka2
                      rw [List.length_append] at hfa2
                      have h800 := hL9.out.1
                      have HSM : Hid (∀ r ∈ oo, r.length ≤ 1000000) := fun r hr => by have := (hsm r hr).2; omega
                      have HE1 := Lib.hid HE
                      clear HE hok hsm hpb hin hpl HSP
                      go_upto_region 31 with fail
                      clear hp0 cz
                      refine wp_region_drawn (N := 14) (LN := #[false, false, false, false, false, false, false, false, false, false, false, false, false, false]) (by kernel_rfl) (by kernel_rfl) (by kernel_rfl) ?_
                      have S12 := S10.drew
                      generalize w9.drew = w12 at S12 ⊢
                      have hb0 := S12.cell 1 rfl 0
                      have hp1 := S12.cell 0 rfl 1
                      simp only [List.getElem?_cons_zero, List.getElem?_cons_succ] at hb0 hp1
                      refine wpAny_seg 0 8 6 14 #[true, true, true, true, true, true, true, true, false, false, false, false, false, false] (by kernel_rfl) (by kernel_rfl) ?_
                      simp only [List.take_succ_cons, List.take_zero, List.drop_succ_cons, List.drop_zero]
                      refine wpStill_step (fun K hK => ?_); go_simp; refine hK _ ?_; clear hK K
                      try simp only [Act.put, List.getElem_toArray, List.getElem_cons_zero, List.getElem_cons_succ, List.setIfInBounds_toArray, List.set_cons_zero, List.set_cons_succ]
                      refine wpStill_step (fun K hK => ?_); go_simp; refine hK _ ?_; clear hK K
                      try simp only [Act.put, List.getElem_toArray, List.getElem_cons_zero, List.getElem_cons_succ, List.setIfInBounds_toArray, List.set_cons_zero, List.set_cons_succ]
                      refine wpStill_step (fun K hK => ?_); go_simp; refine hK _ ?_; clear hK K
                      try simp only [Act.put, List.getElem_toArray, List.getElem_cons_zero, List.getElem_cons_succ, List.setIfInBounds_toArray, List.set_cons_zero, List.set_cons_succ]
                      refine wpStill_step (fun K hK => ?_); go_simp; refine hK _ ?_; clear hK K
                      try simp only [Act.put, List.getElem_toArray, List.getElem_cons_zero, List.getElem_cons_succ, List.setIfInBounds_toArray, List.set_cons_zero, List.set_cons_succ]
                      refine wpStill_step (fun K hK => ?_); go_simp; refine hK _ ?_; clear hK K
                      try simp only [Act.put, List.getElem_toArray, List.getElem_cons_zero, List.getElem_cons_succ, List.setIfInBounds_toArray, List.set_cons_zero, List.set_cons_succ]
                      refine wpStill_step (fun K hK => ?_); go_simp; refine hK _ ?_; clear hK K
                      try simp only [Act.put, List.getElem_toArray, List.getElem_cons_zero, List.getElem_cons_succ, List.setIfInBounds_toArray, List.set_cons_zero, List.set_cons_succ]
                      refine wpStill_step (fun K hK => ?_); go_simp; refine hK _ ?_; clear hK K
                      try simp only [Act.put, List.getElem_toArray, List.getElem_cons_zero, List.getElem_cons_succ, List.setIfInBounds_toArray, List.set_cons_zero, List.set_cons_succ]
                      refine wpStill_step (fun K hK => ?_); go_simp; refine hK _ ?_; clear hK K
                      try simp only [Act.put, List.getElem_toArray, List.getElem_cons_zero, List.getElem_cons_succ, List.setIfInBounds_toArray, List.set_cons_zero, List.set_cons_succ]
                      refine wpStill_nil ?_
                      refine wpAny_one (i := 8) (LN := #[true, true, true, true, true, true, true, true, true, false, false, false, false, false]) (by kernel_rfl) rfl (by kernel_rfl) ?_
                      intro K hK
                      go_simp
                      go_at_call 15
                      refine (HHA.out _ _ (S12.sel [3]) (fun w' h => HY1.out _ _ (h.sel [2]))).mono ?_
                      unfold HeardP
                      rintro e w13 ⟨ra, rc, oa, oc, rfl, S13⟩
                      dsimp only at S13 ⊢
                      go_wp2_with fail
                      refine hK.out _ _ ?_
                      clear hK K
                      try simp only [Act.put, List.getElem_toArray, List.getElem_cons_zero, List.getElem_cons_succ, List.setIfInBounds_toArray, List.set_cons_zero, List.set_cons_succ]
                      refine wpAny_loc (i := 9) (v := ?_) (LN := #[true, true, true, true, true, true, true, true, true, true, false, false, false, false]) rfl (by kernel_rfl) (by kernel_rfl) (by kernel_rfl) (fun _ _ _ h => h) (by kernel_rfl) (by rfl) ?_ ?_
                      rotate_left
                      · intro w; first | (go_simp; done) | (go_simp; with_reducible rfl)
                      try simp only [Act.put, List.getElem_toArray, List.getElem_cons_zero, List.getElem_cons_succ, List.setIfInBounds_toArray, List.set_cons_zero, List.set_cons_succ]
                      refine wpAny_loc (i := 10) (v := ?_) (LN := #[true, true, true, true, true, true, true, true, true, true, true, false, false, false]) rfl (by kernel_rfl) (by kernel_rfl) (by kernel_rfl) (fun _ _ _ h => h) (by kernel_rfl) (by rfl) ?_ ?_
                      rotate_left
                      · intro w; first | (go_simp; done) | (go_simp; with_reducible rfl)
                      try simp only [Act.put, List.getElem_toArray, List.getElem_cons_zero, List.getElem_cons_succ, List.setIfInBounds_toArray, List.set_cons_zero, List.set_cons_succ]
                      refine wpAny_loc (i := 11) (v := ?_) (LN := #[true, true, true, true, true, true, true, true, true, true, true, true, false, false]) rfl (by kernel_rfl) (by kernel_rfl) (by kernel_rfl) (fun _ _ _ h => h) (by kernel_rfl) (by rfl) ?_ ?_
                      rotate_left
                      · intro w; first | (go_simp; done) | (go_simp; with_reducible rfl)
                      try simp only [Act.put, List.getElem_toArray, List.getElem_cons_zero, List.getElem_cons_succ, List.setIfInBounds_toArray, List.set_cons_zero, List.set_cons_succ]
                      refine wpAny_loc (i := 12) (v := ?_) (LN := #[true, true, true, true, true, true, true, true, true, true, true, true, true, false]) rfl (by kernel_rfl) (by kernel_rfl) (by kernel_rfl) (fun _ _ _ h => h) (by kernel_rfl) (by rfl) ?_ ?_
                      rotate_left
                      · intro w; first | (go_simp; done) | (go_simp; with_reducible rfl)
                      try simp only [Act.put, List.getElem_toArray, List.getElem_cons_zero, List.getElem_cons_succ, List.setIfInBounds_toArray, List.set_cons_zero, List.set_cons_succ]
                      refine wpAny_loc (i := 13) (v := ?_) (LN := #[true, true, true, true, true, true, true, true, true, true, true, true, true, true]) rfl (by kernel_rfl) (by kernel_rfl) (by kernel_rfl) (fun _ _ _ h => h) (by kernel_rfl) (by rfl) ?_ ?_
                      rotate_left
                      · intro w; first | (go_simp; done) | (go_simp; with_reducible rfl)
                      try simp only [Act.put, List.getElem_toArray, List.getElem_cons_zero, List.getElem_cons_succ, List.setIfInBounds_toArray, List.set_cons_zero, List.set_cons_succ]
                      refine ⟨by kernel_rfl, ?_⟩
                      try simp only [Act.put, List.getElem_toArray, List.getElem_cons_zero, List.getElem_cons_succ, List.setIfInBounds_toArray, List.set_cons_zero, List.set_cons_succ]
                      clear hb0 hp1 S12 S10 hb6
                      have hg1 := S13.cell 9 rfl 0
                      simp only [List.getElem?_cons_zero, List.getElem?_cons_succ] at hg1
                      go_upto_region 33 with (first
                        | (at_builtin; (obtain ⟨hc, hcn, hcl, S14⟩ := brs_out (S13.sel [7]); obtain ⟨hr, hrn, hrl, S15⟩ := brs_out (S14.sel [2])); refine wpList_append_sat rfl (.tmp 162) (.tmp 163) _ rfl 29 i0 _ 1 24 Try.underlying25 hi hz0 hz1 hz2 rfl (by decide) (S15.sel [2]) rfl rfl S15.own_rd (by rw [List.length_map, hrl, Nat.mul_one]) (hv_one _) (by unfold maxLen; omega) (by omega) ?_; intro ca2 cc2 w16 S16; have S17 := brs_cat (n := ca.length) (m := rr.length) rfl rfl (S16.sel [0, 2, 1]); have hg2 := S17.cell 9 rfl 0; have hgf := S17.frozen 9 rfl 0; simp only [List.getElem?_cons_zero, List.getElem?_cons_succ] at hg2))
                      have S18 := S17.setCell (k := 0) (v := .slice ca2 (ca.length + rr.length) cc2) 9 rfl
                      generalize World.setCell w16 _ _ = w18 at S18 ⊢
                      clear hg1 hg2 hgf S13 S14 S15 S16 S17
                      have S19 := (BW2_open.2 ⟨ya2, ye, ((HY2.out _ _ (S18.sel [6])).sel [6])⟩).sel [0, 2]
                      have hd1 : decide ((kb : Int) < ((ca.length + rr.length : Nat) : Int)) = false := decide_eq_false (by omega)
                      have hd2 : decide ((ka : Int) < ((cb.length : Nat) : Int)) = false := decide_eq_false (by omega)
                      clear S18
                      go_wp2_with (first
                        | (go_at_call 23; refine (out0_any S19 HSM.out (by omega) hps').mono ?_; rintro e w20 ⟨rfl, S20⟩; have hq0 := S20.cell 9 rfl 0; have hq1 := S20.cell 9 rfl 1; have hr0 := S20.cell 8 rfl 0; have hr1 := S20.cell 8 rfl 1; simp only [List.set_cons_zero, List.set_cons_succ, List.getElem?_cons_zero, List.getElem?_cons_succ] at hq0 hq1 hr0 hr1))
                      have S21 := (S20.sel [1, 2, 3]).tail.tail.tail.sel [0, 1, 1]
                      rw [← List.length_append] at S21
                      exact ⟨⟨t + 1, s2, sb, ka, kb, _, ca ++ rr, cb, ca2, ab, cc2, nb, by omega, by omega, by go_num, HE1.out, S21⟩, by simp [intOf]; omega⟩
        · as_aux_lemma =>
            obtain ⟨⟨hfa, hkb, hca⟩, hfb, hka, hcb⟩ := HO.out.fin
            have hgx : (gr xs).length = la := by show (xs.map _).length = la; rw [List.length_map, HXL.out]
            have hgy : (gr ys).length = lb := by show (ys.map _).length = lb; rw [List.length_map, HYL.out]
            rw [hgy] at hkb
            rw [hgx] at hka
            have hle1 := HL.out.le
            have hle2 := HM.out.le
            dsimp only at hle1 hle2
            have h800 := hL9.out.1
            have hs1 : (cb.length : Int) ≤ (acap : Int) := by omega
            have hs2 : (ca.length : Int) ≤ (bcap : Int) := by omega
            have hs3 : (0 : Int) ≤ (cb.length : Int) := by omega
            have hs4 : (0 : Int) ≤ (ca.length : Int) := by omega
            have hb1 : ∀ r ∈ cb, r.length ≤ 1000000000 := by
              intro r hr
              rw [hcb] at hr
              obtain ⟨j, hj⟩ := List.getElem?_of_mem (List.mem_of_mem_take hr)
              obtain ⟨y, hy, rfl⟩ : ∃ y, xs[j]? = some y ∧ y.xs = r := by
                unfold gr at hj
                rw [List.getElem?_map] at hj
                cases hx : xs[j]? with
                | none => rw [hx] at hj; cases hj
                | some y => rw [hx] at hj; exact ⟨y, rfl, by simpa using hj⟩
              have h1 := hL9.out.2.1 j y (by have := (List.getElem?_eq_some_iff.1 hy).1; rw [HXL.out] at this; omega) hy
              obtain ⟨b, off, _, _, hrow⟩ := HL.out.row j y hy
              have := hrow.len
              omega
            have hb2 : ∀ r ∈ ca, r.length ≤ 1000000000 := by
              intro r hr
              rw [hca] at hr
              obtain ⟨j, hj⟩ := List.getElem?_of_mem (List.mem_of_mem_take hr)
              obtain ⟨y, hy, rfl⟩ : ∃ y, ys[j]? = some y ∧ y.xs = r := by
                unfold gr at hj
                rw [List.getElem?_map] at hj
                cases hx : ys[j]? with
                | none => rw [hx] at hj; cases hj
                | some y => rw [hx] at hj; exact ⟨y, rfl, by simpa using hj⟩
              have h1 := hL9.out.2.2 j y (by have := (List.getElem?_eq_some_iff.1 hy).1; rw [HYL.out] at this; omega) hy
              obtain ⟨b, off, _, _, hrow⟩ := HM.out.row j y hy
              have := hrow.len
              omega
            have HB1 := Lib.hid hb1
            have HB2 := Lib.hid hb2
            have HR1 : Hid (∀ w', Below w.heap.size w w' → RdRows w' ao cb) := fun w' hb => by
              have h := HL.out.rows hb
              intro i r hr
              rw [hcb, List.getElem?_take] at hr
              split at hr
              · exact h i r hr
              · cases hr
            have HR2 : Hid (∀ w', Below w.heap.size w w' → RdRows w' bo ca) := fun w' hb => by
              have h := HM.out.rows hb
              intro i r hr
              rw [hca, List.getElem?_take] at hr
              split at hr
              · exact h i r hr
              · cases hr
            have hm1 : cb.length ≤ maxLen := by unfold maxLen; omega
            have hm2 : ca.length ≤ maxLen := by unfold maxLen; omega
            have HM1 := Lib.hid hm1
            have HM2 := Lib.hid hm2
            clear hca hcb hb1 hb2 hm1 hm2 hgx hgy
            by_cases htz : t < zn
            focus
              have hd1 : decide ((t : Int) < (zn : Int)) = true := decide_eq_true (by omega)
              have hd2 : decide ((t : Int) < 600) = false := decide_eq_false (by omega)
              go_upto_region 46 with fail
              clear hd1 hd2
            rotate_left
            focus
              have hd1 : decide ((t : Int) < (zn : Int)) = false := decide_eq_false (by omega)
              go_upto_region 46 with fail
              clear hd1
            all_goals
              refine wp_region_drawn (N := 22) (LN := #[false, false, false, false, false, false, false, false, false, false, false, false, false, false, false, false, false, false, false, false, false, false]) (by kernel_rfl) (by kernel_rfl) (by kernel_rfl) ?_
              have S5 := S4.drew
              generalize wr.drew = w5 at S5 ⊢
              have hc0 := S5.cell 5 rfl 0
              have hc1 := S5.cell 5 rfl 1
              simp only [List.getElem?_cons_zero, List.getElem?_cons_succ] at hc0 hc1
              refine wpAny_seg 0 7 15 22 #[true, true, true, true, true, true, true, false, false, false, false, false, false, false, false, false, false, false, false, false, false, false] (by kernel_rfl) (by kernel_rfl) ?_
              simp only [List.take_succ_cons, List.take_zero, List.drop_succ_cons, List.drop_zero]
              refine wpStill_step (fun K hK => ?_); go_simp; refine hK _ ?_; clear hK K
              try simp only [Act.put, List.getElem_toArray, List.getElem_cons_zero, List.getElem_cons_succ, List.setIfInBounds_toArray, List.set_cons_zero, List.set_cons_succ]
              refine wpStill_step (fun K hK => ?_); go_simp; refine hK _ ?_; clear hK K
              try simp only [Act.put, List.getElem_toArray, List.getElem_cons_zero, List.getElem_cons_succ, List.setIfInBounds_toArray, List.set_cons_zero, List.set_cons_succ]
              refine wpStill_step (fun K hK => ?_); go_simp; refine hK _ ?_; clear hK K
              try simp only [Act.put, List.getElem_toArray, List.getElem_cons_zero, List.getElem_cons_succ, List.setIfInBounds_toArray, List.set_cons_zero, List.set_cons_succ]
              refine wpStill_step (fun K hK => ?_); go_simp; refine hK _ ?_; clear hK K
              try simp only [Act.put, List.getElem_toArray, List.getElem_cons_zero, List.getElem_cons_succ, List.setIfInBounds_toArray, List.set_cons_zero, List.set_cons_succ]
              refine wpStill_step (fun K hK => ?_); go_simp; refine hK _ ?_; clear hK K
              try simp only [Act.put, List.getElem_toArray, List.getElem_cons_zero, List.getElem_cons_succ, List.setIfInBounds_toArray, List.set_cons_zero, List.set_cons_succ]
              refine wpStill_step (fun K hK => ?_); go_simp; refine hK _ ?_; clear hK K
              try simp only [Act.put, List.getElem_toArray, List.getElem_cons_zero, List.getElem_cons_succ, List.setIfInBounds_toArray, List.set_cons_zero, List.set_cons_succ]
              refine wpStill_step (fun K hK => ?_); go_simp; refine hK _ ?_; clear hK K
              try simp only [Act.put, List.getElem_toArray, List.getElem_cons_zero, List.getElem_cons_succ, List.setIfInBounds_toArray, List.set_cons_zero, List.set_cons_succ]
              refine wpStill_nil ?_
              refine wpAny_one (i := 7) (LN := #[true, true, true, true, true, true, true, true, false, false, false, false, false, false, false, false, false, false, false, false, false, false]) (by kernel_rfl) rfl (by kernel_rfl) ?_
              intro K hK
              go_simp
              go_at_call 19
              refine (rows_any (brs_rows (S5.sel [4])).1 (HR1.out _ S5.below) rfl HB1.out HM1.out).mono ?_
              rintro e w6 ⟨rfl, nq6, hq⟩
              have S6 : Sat w w6 _ := hq ▸ S5.drewN nq6
              clear hq
              go_wp2_with fail
              refine hK.out _ _ ?_
              clear hK K
              try simp only [Act.put, List.getElem_toArray, List.getElem_cons_zero, List.getElem_cons_succ, List.setIfInBounds_toArray, List.set_cons_zero, List.set_cons_succ]
              refine wpAny_loc (i := 8) (v := ?_) (LN := #[true, true, true, true, true, true, true, true, true, false, false, false, false, false, false, false, false, false, false, false, false, false]) rfl (by kernel_rfl) (by kernel_rfl) (by kernel_rfl) (fun _ _ _ h => h) (by kernel_rfl) (by rfl) ?_ ?_
              rotate_left
              · intro w; first | (go_simp; done) | (go_simp; with_reducible rfl)
              try simp only [Act.put, List.getElem_toArray, List.getElem_cons_zero, List.getElem_cons_succ, List.setIfInBounds_toArray, List.set_cons_zero, List.set_cons_succ]
              clear hc0 hc1
              have hc0 := S6.cell 5 rfl 0
              simp only [List.getElem?_cons_zero, List.getElem?_cons_succ] at hc0
              refine wpAny_seg 9 16 6 13 #[true, true, true, true, true, true, true, true, true, true, true, true, true, true, true, true, false, false, false, false, false, false] (by kernel_rfl) (by kernel_rfl) ?_
              simp only [List.take_succ_cons, List.take_zero, List.drop_succ_cons, List.drop_zero]
              refine wpStill_step (fun K hK => ?_); go_simp; refine hK _ ?_; clear hK K
              try simp only [Act.put, List.getElem_toArray, List.getElem_cons_zero, List.getElem_cons_succ, List.setIfInBounds_toArray, List.set_cons_zero, List.set_cons_succ]
              refine wpStill_step (fun K hK => ?_); go_simp; refine hK _ ?_; clear hK K
              try simp only [Act.put, List.getElem_toArray, List.getElem_cons_zero, List.getElem_cons_succ, List.setIfInBounds_toArray, List.set_cons_zero, List.set_cons_succ]
              refine wpStill_step (fun K hK => ?_); go_simp; refine hK _ ?_; clear hK K
              try simp only [Act.put, List.getElem_toArray, List.getElem_cons_zero, List.getElem_cons_succ, List.setIfInBounds_toArray, List.set_cons_zero, List.set_cons_succ]
              refine wpStill_step (fun K hK => ?_); go_simp; refine hK _ ?_; clear hK K
              try simp only [Act.put, List.getElem_toArray, List.getElem_cons_zero, List.getElem_cons_succ, List.setIfInBounds_toArray, List.set_cons_zero, List.set_cons_succ]
              refine wpStill_step (fun K hK => ?_); go_simp; refine hK _ ?_; clear hK K
              try simp only [Act.put, List.getElem_toArray, List.getElem_cons_zero, List.getElem_cons_succ, List.setIfInBounds_toArray, List.set_cons_zero, List.set_cons_succ]
              refine wpStill_step (fun K hK => ?_); go_simp; refine hK _ ?_; clear hK K
              try simp only [Act.put, List.getElem_toArray, List.getElem_cons_zero, List.getElem_cons_succ, List.setIfInBounds_toArray, List.set_cons_zero, List.set_cons_succ]
              refine wpStill_step (fun K hK => ?_); go_simp; refine hK _ ?_; clear hK K
              try simp only [Act.put, List.getElem_toArray, List.getElem_cons_zero, List.getElem_cons_succ, List.setIfInBounds_toArray, List.set_cons_zero, List.set_cons_succ]
              refine wpStill_nil ?_
              refine wpAny_one (i := 16) (LN := #[true, true, true, true, true, true, true, true, true, true, true, true, true, true, true, true, true, false, false, false, false, false]) (by kernel_rfl) rfl (by kernel_rfl) ?_
              intro K hK
              go_simp
              go_at_call 19
              refine (rows_any (brs_rows (S6.sel [3])).1 (HR2.out _ S6.below) rfl HB2.out HM2.out).mono ?_
              rintro e w7 ⟨rfl, nq7, hq⟩
              have S7 : Sat w w7 _ := hq ▸ S6.drewN nq7
              clear hq
              go_wp2_with fail
              refine hK.out _ _ ?_
              clear hK K
              try simp only [Act.put, List.getElem_toArray, List.getElem_cons_zero, List.getElem_cons_succ, List.setIfInBounds_toArray, List.set_cons_zero, List.set_cons_succ]
              refine wpAny_loc (i := 17) (v := ?_) (LN := #[true, true, true, true, true, true, true, true, true, true, true, true, true, true, true, true, true, true, false, false, false, false]) rfl (by kernel_rfl) (by kernel_rfl) (by kernel_rfl) (fun _ _ _ h => h) (by kernel_rfl) (by rfl) ?_ ?_
              rotate_left
              · intro w; first | (go_simp; done) | (go_simp; with_reducible rfl)
              try simp only [Act.put, List.getElem_toArray, List.getElem_cons_zero, List.getElem_cons_succ, List.setIfInBounds_toArray, List.set_cons_zero, List.set_cons_succ]
              refine wpAny_loc (i := 18) (v := ?_) (LN := #[true, true, true, true, true, true, true, true, true, true, true, true, true, true, true, true, true, true, true, false, false, false]) rfl (by kernel_rfl) (by kernel_rfl) (by kernel_rfl) (fun _ _ _ h => h) (by kernel_rfl) (by rfl) ?_ ?_
              rotate_left
              · intro w; first | (go_simp; done) | (go_simp; with_reducible rfl)
              try simp only [Act.put, List.getElem_toArray, List.getElem_cons_zero, List.getElem_cons_succ, List.setIfInBounds_toArray, List.set_cons_zero, List.set_cons_succ]
              refine wpAny_one (i := 19) (LN := #[true, true, true, true, true, true, true, true, true, true, true, true, true, true, true, true, true, true, true, true, false, false]) (by kernel_rfl) rfl (by kernel_rfl) ?_
              intro K hK
              go_simp
              go_at_call 12
              refine (known_any S7).mono ?_
              rintro e w8 ⟨rfl, S8⟩
              go_wp2_with fail
              refine hK.out _ _ ?_
              clear hK K
              try simp only [Act.put, List.getElem_toArray, List.getElem_cons_zero, List.getElem_cons_succ, List.setIfInBounds_toArray, List.set_cons_zero, List.set_cons_succ]
              refine wpAny_loc (i := 20) (v := ?_) (LN := #[true, true, true, true, true, true, true, true, true, true, true, true, true, true, true, true, true, true, true, true, true, false]) rfl (by kernel_rfl) (by kernel_rfl) (by kernel_rfl) (fun _ _ _ h => h) (by kernel_rfl) (by rfl) ?_ ?_
              rotate_left
              · intro w; first | (go_simp; done) | (go_simp; with_reducible rfl)
              try simp only [Act.put, List.getElem_toArray, List.getElem_cons_zero, List.getElem_cons_succ, List.setIfInBounds_toArray, List.set_cons_zero, List.set_cons_succ]
              refine wpAny_loc (i := 21) (v := ?_) (LN := #[true, true, true, true, true, true, true, true, true, true, true, true, true, true, true, true, true, true, true, true, true, true]) rfl (by kernel_rfl) (by kernel_rfl) (by kernel_rfl) (fun _ _ _ h => h) (by kernel_rfl) (by rfl) ?_ ?_
              rotate_left
              · intro w; first | (go_simp; done) | (go_simp; with_reducible rfl)
              try simp only [Act.put, List.getElem_toArray, List.getElem_cons_zero, List.getElem_cons_succ, List.setIfInBounds_toArray, List.set_cons_zero, List.set_cons_succ]
              refine ⟨by kernel_rfl, ?_⟩
              try simp only [Act.put, List.getElem_toArray, List.getElem_cons_zero, List.getElem_cons_succ, List.setIfInBounds_toArray, List.set_cons_zero, List.set_cons_succ]
              go_wp2_with fail
              go_ret
              exact ⟨rfl, S8.below⟩
end Go.Proofs.Ytdgalljalcediaa
end
