/-
  link, plain: a packet is read as it was laid; two ends, and packets under way.
-/
import Derived.Test.YtdgalljalcediaaLiN
import Derived.Test.YtdgalljalcediaaWiM
namespace Go.Oct
open Go.RowKit

theorem openF_pack {id n came : Int} {row : List Int} (hl : row.length ≤ 10000) : openF (packP id n came row) = (packB id n came row, 0) := by
  rw [packP_eq hl]
  have := packB_length id n came row
  exact openF_rec (by omega)
theorem endsF_nil : endsF [] 0 = 0 := by simp [endsF]
theorem lparts_pack {id n came : Int} {row : List Int} (h1 : I64 id) (h2 : I64 n) (h3 : I64 came) (hl : row.length ≤ 10000) (h0 : n ≤ 0 → row = []) : lparts (packB id n came row) = ⟨id, n, came, row, 0⟩ := by
  obtain ⟨t, ht⟩ : ∃ t, (if 0 < n then num row.length ++ row else []) = t := ⟨_, rfl⟩
  have e0 : packB id n came row = num id ++ (num n ++ (num came ++ t)) := by unfold packB; rw [ht]; simp
  have e1 : lq1 (packB id n came row) = (id, num n ++ (num came ++ t), 0) := by unfold lq1; rw [e0]; exact rdNum_num h1.1 h1.2 _
  have e2 : lq2 (packB id n came row) = (n, num came ++ t, 0) := by unfold lq2; rw [e1]; exact rdNum_num h2.1 h2.2 _
  have e3 : lq3 (packB id n came row) = (came, t, 0) := by unfold lq3; rw [e2]; exact rdNum_num h3.1 h3.2 _
  have e4 : lq4 (packB id n came row) = (row, [], 0) := by
    unfold lq4
    rw [e2, e3]
    by_cases hn : 0 < n
    · rw [if_pos hn] at ht ⊢
      subst ht
      exact rdBytes_data (by omega)
    · rw [if_neg hn] at ht ⊢
      subst ht
      rw [h0 (by omega)]
  unfold lparts
  rw [e1, e2, e3, e4, endsF_nil]
theorem lok_pack {id n came : Int} {row : List Int} (h1 : I64 id) (h2 : I64 n) (h3 : I64 came) (hl : row.length ≤ 4096) (h0 : n ≤ 0 → row = []) (hn : 0 ≤ n) (hc : 0 ≤ came) : lokP (packP id n came row) := by
  unfold lokP
  rw [openF_pack (by omega)]
  dsimp only
  rw [lparts_pack h1 h2 h3 (by omega) h0]
  exact ⟨rfl, rfl, hn, hc, hl⟩
theorem ackP_id {ack : Int} : ∀ (u : Nat) (s : LS), (ackP ack u s).id = s.id ∧ (ackP ack u s).came = s.came ∧ (ackP ack u s).waited = s.waited ∧ (ackP ack u s).sent = s.sent ∧ (ackP ack u s).vain = s.vain
  | 0, s => ⟨rfl, rfl, rfl, rfl, rfl⟩
  | u + 1, s => by
    unfold ackP
    split
    · have := @ackP_id ack u { s with rows := s.rows.tail, first := s.first + 1, under := u }
      exact this
    · exact ⟨rfl, rfl, rfl, rfl, rfl⟩
/-- so many rows were let go -/
theorem ackP_gone {ack : Int} : ∀ (u : Nat) (s : LS), s.under = u → u ≤ s.rows.length → ∃ d : Nat, d ≤ u ∧ (ackP ack u s).rows = s.rows.drop d ∧ (ackP ack u s).first = s.first + d ∧ (ackP ack u s).under = u - d ∧
    (0 < d → s.first + d ≤ ack + 1) ∧ (d < u → ack < s.first + d)
  | 0, s, hu, _ => ⟨0, Nat.le_refl _, rfl, by simp [ackP], hu, by omega, by omega⟩
  | u + 1, s, hu, hl => by
    unfold ackP
    split
    · rename_i h1
      obtain ⟨d, i1, i2, i3, i4, i5, i6⟩ := @ackP_gone ack u { s with rows := s.rows.tail, first := s.first + 1, under := u } rfl (by simp; omega)
      refine ⟨d + 1, by omega, ?_, ?_, ?_, ?_, ?_⟩
      · rw [i2]; show s.rows.tail.drop d = _; rw [← List.drop_one, List.drop_drop, Nat.add_comm]
      · rw [i3]; show s.first + 1 + (d : Int) = _; omega
      · rw [i4]; omega
      · intro _
        rcases Nat.eq_zero_or_pos d with rfl | hd
        · omega
        · have := i5 hd; simp only at this; omega
      · intro h; have := i6 (by omega); simp only at this; omega
    · rename_i h1
      exact ⟨0, by omega, rfl, by simp, by omega, by omega, fun _ => by omega⟩

/-- rows of one end to the other: what waits, what came -/
structure Flow (G : List (List Int)) (k : Nat) (s r : LS) (c : List (List Int)) : Prop where
  kl : k ≤ G.length
  fk : s.first ≤ k + 1
  f1 : 1 ≤ s.first
  rows : s.rows = (G.take k).drop (s.first - 1).toNat
  ul : s.under ≤ s.rows.length
  lo : s.first - 1 ≤ r.came
  hi : r.came ≤ s.first + s.under - 1
  came : c = G.take r.came.toNat
def Pkt (id : Int) (G : List (List Int)) (s : LS) (p : List Int) : Prop :=
  ∃ n ack row, p = packP id n ack row ∧ 0 ≤ n ∧ n ≤ s.first + s.under - 1 ∧ (n ≤ 0 → row = []) ∧ (0 < n → G[(n - 1).toNat]? = some row) ∧ 0 ≤ ack ∧ ack ≤ s.came
structure Ends2 (id : Int) (N : Int) (Ga Gb : List (List Int)) (a b : LS) (ka kb : Nat) (ca cb : List (List Int)) : Prop where
  oka : a.Ok N
  okb : b.Ok N
  ida : a.id = id
  idb : b.id = id
  fa : Flow Ga ka a b cb
  fb : Flow Gb kb b a ca
  sa : ∀ r ∈ Ga.take ka, Bytes r ∧ r.length ≤ 4096
  sb : ∀ r ∈ Gb.take kb, Bytes r ∧ r.length ≤ 4096
def Way2 (id : Int) (Ga Gb : List (List Int)) (a b : LS) (way : List (Int × List Int)) : Prop :=
  ∀ p ∈ way, (p.1 = 1 ∧ Pkt id Ga a p.2) ∨ (p.1 = 0 ∧ Pkt id Gb b p.2)
theorem Ends2.swap {id N : Int} {Ga Gb : List (List Int)} {a b : LS} {ka kb : Nat} {ca cb : List (List Int)} (h : Ends2 id N Ga Gb a b ka kb ca cb) : Ends2 id N Gb Ga b a kb ka cb ca :=
  ⟨h.okb, h.oka, h.idb, h.ida, h.fb, h.fa, h.sb, h.sa⟩
theorem Flow.under_k {G : List (List Int)} {k : Nat} {s r : LS} {c : List (List Int)} (h : Flow G k s r c) : s.first + s.under - 1 ≤ k := by
  have h1 := h.ul
  have h2 := h.kl
  have h3 := h.f1
  have h4 := h.fk
  rw [h.rows, List.length_drop, List.length_take, Nat.min_eq_left h2] at h1
  omega
theorem Flow.row {G : List (List Int)} {k : Nat} {s r : LS} {c : List (List Int)} (h : Flow G k s r c) {j : Nat} (hj : j < s.rows.length) : ∃ x, s.rows[j]? = some x ∧ G[(s.first + j - 1).toNat]? = some x := by
  refine ⟨s.rows[j], List.getElem?_eq_getElem hj, ?_⟩
  have h1 : s.rows[j]? = ((G.take k).drop (s.first - 1).toNat)[j]? := by rw [← h.rows]
  rw [List.getElem?_eq_getElem hj, List.getElem?_drop, List.getElem?_take] at h1
  have h3 := h.f1
  split at h1
  · rw [h1]; congr 1; omega
  · cases h1
theorem Pkt.mono {id : Int} {G : List (List Int)} {s s' : LS} {p : List Int} (h : Pkt id G s p) (h1 : s.first + s.under ≤ s'.first + s'.under) (h2 : s.came ≤ s'.came) : Pkt id G s' p := by
  obtain ⟨n, ack, row, a1, a2, a3, a4, a5, a6, a7⟩ := h
  exact ⟨n, ack, row, a1, a2, by omega, a4, a5, a6, by omega⟩
/-- what goes out of an end, as rows of its own -/
theorem pkts_out {id : Int} {G : List (List Int)} {k : Nat} {s r s' : LS} {c : List (List Int)} (h : Flow G k s r c) (hid : s.id = id) (hc : 0 ≤ s.came) {m : Nat} (b : Nat) (hm : b + m ≤ s.rows.length) (hs : s.came = s'.came) (hu : s.first + ((b + m : Nat) : Int) ≤ s'.first + s'.under) :
    ∀ p ∈ (List.range m).map (fun j : Nat => packP s.id (s.first + (b + j : Nat)) s.came (s.rows[b + j]?.getD [])), Pkt id G s' p := by
  intro p hp
  obtain ⟨j, hj, rfl⟩ := List.mem_map.1 hp
  have hjm := List.mem_range.1 hj
  obtain ⟨x, hx, hg⟩ := h.row (j := b + j) (by omega)
  have := h.f1
  refine ⟨s.first + (b + j : Nat), s.came, x, by rw [hid, hx]; rfl, by omega, by omega, by omega, fun _ => ?_, hc, by omega⟩
  rw [← hg]
theorem fill_pkts {id : Int} {G : List (List Int)} {k : Nat} {s r : LS} {c : List (List Int)} (h : Flow G k s r c) (hid : s.id = id) (hc : 0 ≤ s.came) : ∀ p ∈ (fillP s).1, Pkt id G (fillP s).2 p := by
  have hul := h.ul
  have hroom : s.room ≤ s.rows.length - s.under := by unfold LS.room; omega
  have := pkts_out (s' := (fillP s).2) h hid hc (m := s.room) s.under (by omega) rfl (by show s.first + _ ≤ s.first + ((s.under + s.room : Nat) : Int); omega)
  intro p hp
  refine this p ?_
  unfold fillP outP at hp
  simp only [Int.natCast_add] at hp ⊢
  simpa only [Int.add_assoc] using hp
theorem Flow.fill {G : List (List Int)} {k : Nat} {s r : LS} {c : List (List Int)} (h : Flow G k s r c) : Flow G k (fillP s).2 r c := by
  have hul := h.ul
  have hroom : s.room ≤ s.rows.length - s.under := by unfold LS.room; omega
  refine ⟨h.kl, h.fk, h.f1, h.rows, ?_, h.lo, ?_, h.came⟩
  · show s.under + s.room ≤ s.rows.length; omega
  · show r.came ≤ s.first + ((s.under + s.room : Nat) : Int) - 1; have := h.hi; omega
theorem Flow.recv {G : List (List Int)} {k : Nat} {s r r' : LS} {c : List (List Int)} (h : Flow G k s r c) (e : r'.came = r.came) : Flow G k s r' c :=
  ⟨h.kl, h.fk, h.f1, h.rows, h.ul, by rw [e]; exact h.lo, by rw [e]; exact h.hi, by rw [e]; exact h.came⟩
theorem Flow.same {G : List (List Int)} {k : Nat} {s s' r : LS} {c : List (List Int)} (h : Flow G k s r c) (e1 : s'.first = s.first) (e2 : s'.rows = s.rows) (e3 : s'.under = s.under) : Flow G k s' r c :=
  ⟨h.kl, by rw [e1]; exact h.fk, by rw [e1]; exact h.f1, by rw [e1, e2]; exact h.rows, by rw [e2, e3]; exact h.ul, by rw [e1]; exact h.lo, by rw [e1, e3]; exact h.hi, h.came⟩
theorem Flow.acks {G : List (List Int)} {k : Nat} {s r : LS} {c : List (List Int)} (h : Flow G k s r c) {ack : Int} (ha : ack ≤ r.came) : Flow G k (ackP ack s.under s) r c ∧ s.first + s.under = (ackP ack s.under s).first + (ackP ack s.under s).under ∧
    (ackP ack s.under s).first ≤ s.first + s.under ∧ (ack = r.came → r.came < (ackP ack s.under s).first) := by
  obtain ⟨d, d1, d2, d3, d4, d5, d6⟩ := ackP_gone (ack := ack) s.under s rfl h.ul
  have h1 := h.f1; have h2 := h.fk; have h3 := h.ul; have h4 := h.lo; have h5 := h.hi
  have h6 := h.under_k
  refine ⟨⟨h.kl, by rw [d3]; omega, by rw [d3]; omega, ?_, ?_, ?_, ?_, h.came⟩, by rw [d3, d4]; omega, by rw [d3]; omega, fun e => ?_⟩
  · rw [d2, d3, h.rows, List.drop_drop]; congr 1; omega
  · rw [d2, d4, List.length_drop]; omega
  · rw [d3]
    rcases Nat.eq_zero_or_pos d with rfl | hd
    · omega
    · have := d5 hd; omega
  · rw [d3, d4]; omega
  · rw [d3]
    rcases Nat.lt_or_ge d s.under with hd | hd
    · have := d6 hd; omega
    · omega
theorem gotP_first {s : LS} {q : LP} : (gotP s q).first = (ackP q.ack s.under s).first ∧ (gotP s q).rows = (ackP q.ack s.under s).rows ∧ (gotP s q).under = (ackP q.ack s.under s).under ∧ (gotP s q).id = s.id ∧ (gotP s q).waited = s.waited := by
  have h := ackP_id (ack := q.ack) s.under s
  unfold gotP
  dsimp only
  split
  · exact ⟨rfl, rfl, rfl, h.1, h.2.2.1⟩
  · split
    · exact ⟨rfl, rfl, rfl, h.1, h.2.2.1⟩
    · exact ⟨rfl, rfl, rfl, h.1, h.2.2.1⟩
theorem gotP_came {s : LS} {q : LP} : (gotP s q).came = if q.n ≠ 0 ∧ q.n = s.came + 1 then s.came + 1 else s.came := by
  have h := ackP_id (ack := q.ack) s.under s
  unfold gotP
  dsimp only
  by_cases h0 : q.n = 0
  · rw [if_pos h0, if_neg (fun x => x.1 h0)]; exact h.2.1
  · rw [if_neg h0, h.2.1]
    by_cases h1 : q.n = s.came + 1
    · rw [if_pos h1, if_pos ⟨h0, h1⟩]
    · rw [if_neg h1, if_neg (fun x => h1 x.2)]
theorem newRows_eq {s : LS} {q : LP} : newRows s q = if q.n ≠ 0 ∧ q.n = s.came + 1 then [q.row] else [] := by
  unfold newRows
  rw [(ackP_id (ack := q.ack) s.under s).2.1]
/-- what an end does with a packet of the other one, in short -/
structure Heard (id : Int) (G : List (List Int)) (b b' : LS) (n ack : Int) (row : List Int) (rows outs : List (List Int)) : Prop where
  rows : rows = if n ≠ 0 ∧ n = b.came + 1 then [row] else []
  came : b'.came = if n ≠ 0 ∧ n = b.came + 1 then b.came + 1 else b.came
  outs : ∀ p ∈ outs, Pkt id G b' p
  push : b.first + b.under ≤ b'.first + b'.under
theorem LS.Ok.i64 {N : Int} {s : LS} (h : s.Ok N) (hN : N ≤ 1000000000000) : I64 s.came := by
  have := h.c0; have := h.cN; unfold I64; omega
theorem hear_cases {id N : Int} {Ga Gb : List (List Int)} {a b : LS} {ka kb : Nat} {ca cb : List (List Int)} (h : Ends2 id N Ga Gb a b ka kb ca cb) (hN : N ≤ 1000000000000) {n ack : Int} {row : List Int}
    (hn : 0 ≤ n) (hn2 : n ≤ a.first + a.under - 1) (hr0 : n ≤ 0 → row = []) (hr : 0 < n → Ga[(n - 1).toNat]? = some row) (ha : 0 ≤ ack) (ha2 : ack ≤ a.came) :
    hearP b (packP id n ack row) = (if 0 < n ∧ (fillP (gotP b ⟨id, n, ack, row, 0⟩)).1 = [] then
      (newRows b ⟨id, n, ack, row, 0⟩, [packP id 0 (gotP b ⟨id, n, ack, row, 0⟩).came []], { (fillP (gotP b ⟨id, n, ack, row, 0⟩)).2 with sent := (fillP (gotP b ⟨id, n, ack, row, 0⟩)).2.sent + 1 })
    else (newRows b ⟨id, n, ack, row, 0⟩, (fillP (gotP b ⟨id, n, ack, row, 0⟩)).1, (fillP (gotP b ⟨id, n, ack, row, 0⟩)).2)) := by
  have hu := h.fa.under_k
  have hkl := h.fa.kl
  have hrl : row.length ≤ 4096 := by
    rcases Int.lt_or_le 0 n with h0 | h0
    · refine (h.sa row ?_).2
      have e := hr h0
      refine List.mem_of_getElem? (i := (n - 1).toNat) ?_
      rw [List.getElem?_take, if_pos (by omega), e]
    · rw [hr0 h0]; simp
  have hid : I64 id := by rw [← h.ida]; exact h.oka.id
  have hnI : I64 n := by have := h.oka.fN; have := h.oka.u16; unfold I64; omega
  have hac : I64 ack := by have := h.oka.cN; unfold I64; omega
  have e1 : lparts (openF (packP id n ack row)).1 = ⟨id, n, ack, row, 0⟩ := by rw [openF_pack (by omega)]; exact lparts_pack hid hnI hac (by omega) hr0
  have e2 : ¬ refused b (packP id n ack row) := by
    unfold refused
    rw [e1, h.idb]
    exact fun x => x.elim (fun x => x (lok_pack hid hnI hac hrl hr0 hn ha)) (fun x => x rfl)
  have e3 : (fillP (gotP b ⟨id, n, ack, row, 0⟩)).2.id = id := by show (gotP b _).id = id; rw [gotP_first.2.2.2.1, h.idb]
  rw [hearP_ok e2, e1, e3]
  rfl
theorem Ends2.hear {id N : Int} {Ga Gb : List (List Int)} {a b : LS} {ka kb : Nat} {ca cb : List (List Int)} (h : Ends2 id N Ga Gb a b ka kb ca cb) (hN : N ≤ 1000000000000) {p : List Int} (hp : Pkt id Ga a p) :
    Ends2 id (N + 40) Ga Gb a (hearP b p).2.2 ka kb ca (cb ++ (hearP b p).1) ∧ (∀ x ∈ (hearP b p).2.1, Pkt id Gb (hearP b p).2.2 x) ∧ b.first + b.under ≤ (hearP b p).2.2.first + (hearP b p).2.2.under ∧ b.came ≤ (hearP b p).2.2.came := by
  have hok := h.okb.hear p
  obtain ⟨n, ack, row, rfl, hn, hn2, hr0, hr, ha, ha2⟩ := hp
  have hc := hear_cases h hN hn hn2 hr0 hr ha ha2
  obtain ⟨q, hq⟩ : ∃ q : LP, (⟨id, n, ack, row, 0⟩ : LP) = q := ⟨_, rfl⟩
  rw [hq] at hc
  have q1 : q.n = n := by rw [← hq]
  have q2 : q.ack = ack := by rw [← hq]
  have q3 : q.row = row := by rw [← hq]
  have hg := h.okb.got q
  have hca := gotP_came (s := b) (q := q)
  have hnr := newRows_eq (s := b) (q := q)
  rw [q1] at hca hnr
  rw [q3] at hnr
  obtain ⟨g1, g2, g3, g4, -⟩ := gotP_first (s := b) (q := q)
  rw [q2] at g1 g2 g3
  obtain ⟨f1, f2, f3, -⟩ := h.fb.acks ha2
  have F1 : Flow Gb kb (gotP b q) a ca := f1.same g1 g2 g3
  have F2 := F1.fill
  have P2 := fill_pkts F1 (g4.trans h.idb) hg.c0
  -- what came
  have hcb : b.came = (Ga.take b.came.toNat).length := by
    have := h.fa.hi; have := h.fa.under_k; have := h.fa.kl; have := h.okb.c0
    rw [List.length_take]; omega
  have c0 := h.okb.c0
  have A2 : ∀ (b' : LS), b'.came = (gotP b q).came → Flow Ga ka a b' (cb ++ newRows b q) := by
    intro b' e
    have hlo := h.fa.lo; have hhi := h.fa.hi
    refine ⟨h.fa.kl, h.fa.fk, h.fa.f1, h.fa.rows, h.fa.ul, ?_, ?_, ?_⟩
    · rw [e, hca]; split <;> omega
    · rw [e, hca]; split <;> omega
    · rw [e, hca, hnr, h.fa.came]
      split
      · rename_i hx
        have hrow := hr (by omega)
        rw [show (b.came + 1).toNat = b.came.toNat + 1 by omega, List.take_add_one]
        rw [show (n - 1).toNat = b.came.toNat by omega] at hrow
        rw [hrow]; rfl
      · rw [List.append_nil]
  have B2 : b.came ≤ (gotP b q).came := by rw [hca]; split <;> omega
  have B3 : b.first + b.under ≤ (gotP b q).first + (gotP b q).under := by rw [g1, g3]; omega
  rw [hc] at hok ⊢
  split
  · rename_i h2
    rw [if_pos h2] at hok
    refine ⟨⟨h.oka.mono (by omega), hok, h.ida, ?_, A2 _ rfl, F2.same rfl rfl rfl, h.sa, h.sb⟩, ?_, ?_, B2⟩
    · exact g4.trans h.idb
    · intro x hx
      rw [List.mem_singleton.1 hx]
      refine ⟨0, (gotP b q).came, [], rfl, by omega, ?_, fun _ => rfl, by omega, hg.c0, Int.le_refl _⟩
      show (0 : Int) ≤ (gotP b q).first + ((gotP b q).under + (gotP b q).room : Nat) - 1
      have := hg.f1; omega
    · show _ ≤ (gotP b q).first + ((gotP b q).under + (gotP b q).room : Nat); omega
  · rename_i h2
    rw [if_neg h2] at hok
    refine ⟨⟨h.oka.mono (by omega), hok, h.ida, g4.trans h.idb, A2 _ rfl, F2, h.sa, h.sb⟩, P2, ?_, B2⟩
    show _ ≤ (gotP b q).first + ((gotP b q).under + (gotP b q).room : Nat); omega
theorem Flow.push {G : List (List Int)} {k : Nat} {s r : LS} {c : List (List Int)} (h : Flow G k s r c) {p : List Int} (hp : G[k]? = some p) : Flow G (k + 1) { s with rows := s.rows ++ [p] } r c := by
  have hk : k < G.length := (List.getElem?_eq_some_iff.1 hp).1
  have := h.fk; have := h.f1
  refine ⟨by omega, by show s.first ≤ _; omega, h.f1, ?_, ?_, h.lo, h.hi, h.came⟩
  · show s.rows ++ [p] = (G.take (k + 1)).drop (s.first - 1).toNat
    rw [List.take_add_one, hp, List.drop_append_of_le_length (by rw [List.length_take]; omega), ← h.rows]; rfl
  · show s.under ≤ (s.rows ++ [p]).length; have := h.ul; simp; omega
theorem Ends2.send {id N : Int} {Ga Gb : List (List Int)} {a b : LS} {ka kb : Nat} {ca cb : List (List Int)} (h : Ends2 id N Ga Gb a b ka kb ca cb) {p : List Int} (hp : Ga[ka]? = some p) (hB : Bytes p) :
    Ends2 id (N + 40) Ga Gb (sendP a p).2.2 b (if (sendP a p).2.1 = 0 then ka + 1 else ka) kb ca cb ∧ (∀ x ∈ (sendP a p).1, Pkt id Ga (sendP a p).2.2 x) ∧ a.first + a.under ≤ (sendP a p).2.2.first + (sendP a p).2.2.under ∧ a.came ≤ (sendP a p).2.2.came := by
  have hok := h.oka.send hB
  have hk : ka < Ga.length := (List.getElem?_eq_some_iff.1 hp).1
  unfold sendP at hok ⊢
  split
  · exact ⟨⟨h.oka.mono (by omega), h.okb.mono (by omega), h.ida, h.idb, h.fa, h.fb, h.sa, h.sb⟩, fun x hx => by simp at hx, Int.le_refl _, Int.le_refl _⟩
  · split
    · exact ⟨⟨h.oka.mono (by omega), h.okb.mono (by omega), h.ida, h.idb, h.fa, h.fb, h.sa, h.sb⟩, fun x hx => by simp at hx, Int.le_refl _, Int.le_refl _⟩
    · rename_i h1 h2
      rw [if_neg h1, if_neg h2] at hok
      have F := h.fa.push hp
      refine ⟨⟨hok.mono (by omega), h.okb.mono (by omega), h.ida, h.idb, F.fill, h.fb.recv rfl, ?_, h.sb⟩, fill_pkts F h.ida h.oka.c0, ?_, Int.le_refl _⟩
      · intro r hr
        rw [if_pos rfl, List.take_add_one, hp] at hr
        rcases List.mem_append.1 hr with hr | hr
        · exact h.sa r hr
        · simp at hr; rw [hr]; exact ⟨hB, by omega⟩
      · show _ ≤ a.first + ((a.under + LS.room _ : Nat) : Int); omega
theorem Ends2.tick {id N : Int} {Ga Gb : List (List Int)} {a b : LS} {ka kb : Nat} {ca cb : List (List Int)} (h : Ends2 id N Ga Gb a b ka kb ca cb) :
    Ends2 id (N + 40) Ga Gb (tickP a).2 b ka kb ca cb ∧ (∀ x ∈ (tickP a).1, Pkt id Ga (tickP a).2 x) ∧ a.first + a.under ≤ (tickP a).2.first + (tickP a).2.under ∧ a.came ≤ (tickP a).2.came := by
  have hok := h.oka.tick
  unfold tickP at hok ⊢
  split
  · rename_i h1
    rw [if_pos h1] at hok
    exact ⟨⟨hok.mono (by omega), h.okb.mono (by omega), h.ida, h.idb, h.fa.same rfl rfl rfl, h.fb.recv rfl, h.sa, h.sb⟩, fun x hx => by simp at hx, Int.le_refl _, Int.le_refl _⟩
  · rename_i h1
    rw [if_neg h1] at hok
    split
    · rename_i h2
      rw [if_pos h2] at hok
      exact ⟨⟨hok.mono (by omega), h.okb.mono (by omega), h.ida, h.idb, h.fa.same rfl rfl rfl, h.fb.recv rfl, h.sa, h.sb⟩, fun x hx => by simp at hx, Int.le_refl _, Int.le_refl _⟩
    · rename_i h2
      rw [if_neg h2] at hok
      refine ⟨⟨hok.mono (by omega), h.okb.mono (by omega), h.ida, h.idb, h.fa.same rfl rfl rfl, h.fb.recv rfl, h.sa, h.sb⟩, ?_, Int.le_refl _, Int.le_refl _⟩
      have := pkts_out (s' := { a with waited := 0, sent := a.sent + a.under }) h.fa h.ida h.oka.c0 (m := a.under) 0 (by have := h.fa.ul; omega) rfl (by show a.first + _ ≤ a.first + (a.under : Int); omega)
      intro x hx
      refine this x ?_
      simpa only [Nat.zero_add] using hx
theorem Way2.swap01 {id : Int} {Ga Gb : List (List Int)} {a b : LS} {way : List (Int × List Int)} (h : Way2 id Ga Gb a b way) : ∀ p ∈ way, (p.1 = 0 ∧ Pkt id Gb b p.2) ∨ (p.1 = 1 ∧ Pkt id Ga a p.2) := fun p hp => (h p hp).symm
theorem Way2.sub {id : Int} {Ga Gb : List (List Int)} {a b : LS} {way way' : List (Int × List Int)} (h : Way2 id Ga Gb a b way) (hs : ∀ p ∈ way', p ∈ way) : Way2 id Ga Gb a b way' := fun p hp => h p (hs p hp)
theorem Way2.left {id : Int} {Ga Gb : List (List Int)} {a a' b : LS} {way : List (Int × List Int)} (h : Way2 id Ga Gb a b way) (h1 : a.first + a.under ≤ a'.first + a'.under) (h2 : a.came ≤ a'.came) : Way2 id Ga Gb a' b way := by
  intro p hp
  rcases h p hp with ⟨e, x⟩ | x
  · exact .inl ⟨e, x.mono h1 h2⟩
  · exact .inr x
theorem Way2.right {id : Int} {Ga Gb : List (List Int)} {a b b' : LS} {way : List (Int × List Int)} (h : Way2 id Ga Gb a b way) (h1 : b.first + b.under ≤ b'.first + b'.under) (h2 : b.came ≤ b'.came) : Way2 id Ga Gb a b' way := by
  intro p hp
  rcases h p hp with x | ⟨e, x⟩
  · exact .inl x
  · exact .inr ⟨e, x.mono h1 h2⟩
theorem Way2.add1 {id : Int} {Ga Gb : List (List Int)} {a b : LS} {way : List (Int × List Int)} (h : Way2 id Ga Gb a b way) {l : List (List Int)} (hl : ∀ x ∈ l, Pkt id Ga a x) : Way2 id Ga Gb a b (way ++ l.map fun x => ((1 : Int), x)) := by
  intro p hp
  rcases List.mem_append.1 hp with hp | hp
  · exact h p hp
  · obtain ⟨x, hx, rfl⟩ := List.mem_map.1 hp
    exact .inl ⟨rfl, hl x hx⟩
theorem Way2.add0 {id : Int} {Ga Gb : List (List Int)} {a b : LS} {way : List (Int × List Int)} (h : Way2 id Ga Gb a b way) {l : List (List Int)} (hl : ∀ x ∈ l, Pkt id Gb b x) : Way2 id Ga Gb a b (way ++ l.map fun x => ((0 : Int), x)) := by
  intro p hp
  rcases List.mem_append.1 hp with hp | hp
  · exact h p hp
  · obtain ⟨x, hx, rfl⟩ := List.mem_map.1 hp
    exact .inr ⟨rfl, hl x hx⟩
theorem ends2_new {id : Int} {Ga Gb : List (List Int)} (h : I64 id) : Ends2 id 1 Ga Gb (LS.new id) (LS.new id) 0 0 [] [] := by
  have f : ∀ G : List (List Int), Flow G 0 (LS.new id) (LS.new id) [] := fun G => ⟨by omega, by simp [LS.new], by simp [LS.new], by simp [LS.new], by simp [LS.new], by simp [LS.new], by simp [LS.new], by simp [LS.new]⟩
  exact ⟨LS.new_ok h, LS.new_ok h, rfl, rfl, f _, f _, by simp, by simp⟩
end Go.Oct
