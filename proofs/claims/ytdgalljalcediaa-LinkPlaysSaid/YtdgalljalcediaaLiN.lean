/-
  link, plain: what stays true of an end; how long packets are.
-/
import Derived.Test.YtdgalljalcediaaLiP
namespace Go.Oct
open Go.RowKit

structure LS.Ok (N : Int) (s : LS) : Prop where
  id : I64 s.id
  f1 : 1 ≤ s.first
  fN : s.first ≤ N
  ul : s.under ≤ s.rows.length
  u16 : s.under ≤ 16
  c0 : 0 ≤ s.came
  cN : s.came ≤ N
  w0 : 0 ≤ s.waited
  w5 : s.waited < 5
  s0 : 0 ≤ s.sent
  sN : s.sent ≤ N
  v0 : 0 ≤ s.vain
  vN : s.vain ≤ N
  len : s.rows.length ≤ 1000
  row : ∀ r ∈ s.rows, Bytes r ∧ r.length ≤ 4096
theorem LS.Ok.mono {N M : Int} {s : LS} (h : s.Ok N) (hNM : N ≤ M) : s.Ok M :=
  ⟨h.id, h.f1, by have := h.fN; omega, h.ul, h.u16, h.c0, by have := h.cN; omega, h.w0, h.w5, h.s0, by have := h.sN; omega, h.v0, by have := h.vN; omega, h.len, h.row⟩
theorem LS.new_ok {id : Int} (h : I64 id) : (LS.new id).Ok 1 :=
  ⟨h, by simp [LS.new], by simp [LS.new], by simp [LS.new], by simp [LS.new], by simp [LS.new], by simp [LS.new], by simp [LS.new], by simp [LS.new], by simp [LS.new], by simp [LS.new], by simp [LS.new], by simp [LS.new], by simp [LS.new], by simp [LS.new]⟩
theorem LS.room_le (s : LS) : s.room ≤ 16 := by unfold LS.room; omega
theorem LS.Ok.went {N : Int} {s : LS} (h : s.Ok N) {k : Nat} (hk : k ≤ s.room) : (s.went k).Ok (N + 16) := by
  have h16 := s.room_le
  have := h.ul; have := h.u16; have := h.fN; have := h.cN; have := h.s0; have := h.sN; have := h.vN
  have hr : s.room = min s.rows.length 16 - s.under := rfl
  refine ⟨h.id, h.f1, ?_, ?_, ?_, h.c0, ?_, ?_, ?_, ?_, ?_, h.v0, ?_, h.len, h.row⟩
  · show s.first ≤ _; omega
  · show s.under + k ≤ s.rows.length; omega
  · show s.under + k ≤ 16; omega
  · show s.came ≤ _; omega
  · show 0 ≤ if k = 0 then s.waited else 0; split; exact h.w0; omega
  · show (if k = 0 then s.waited else 0) < 5; split; exact h.w5; omega
  · show 0 ≤ s.sent + k; omega
  · show s.sent + k ≤ _; omega
  · show s.vain ≤ _; omega
theorem LS.Ok.fill {N : Int} {s : LS} (h : s.Ok N) : (fillP s).2.Ok (N + 16) := h.went (Nat.le_refl _)
theorem LS.Ok.push {N : Int} {s : LS} (h : s.Ok N) {p : List Int} (hB : Bytes p) (hp : p.length ≤ 4096) (hl : s.rows.length < 1000) : LS.Ok N { s with rows := s.rows ++ [p] } := by
  refine ⟨h.id, h.f1, h.fN, ?_, h.u16, h.c0, h.cN, h.w0, h.w5, h.s0, h.sN, h.v0, h.vN, ?_, ?_⟩
  · show s.under ≤ (s.rows ++ [p]).length; have := h.ul; simp; omega
  · show (s.rows ++ [p]).length ≤ 1000; simp; omega
  · intro r hr
    rcases List.mem_append.1 hr with hr | hr
    · exact h.row r hr
    · rw [List.mem_singleton.1 hr]; exact ⟨hB, hp⟩
theorem LS.Ok.send {N : Int} {s : LS} (h : s.Ok N) {p : List Int} (hB : Bytes p) : (sendP s p).2.2.Ok (N + 16) := by
  unfold sendP
  split
  · exact h.mono (by omega)
  · split
    · exact h.mono (by omega)
    · rename_i h1 h2; exact (h.push hB (by omega) (by omega)).fill
theorem LS.Ok.pop {N : Int} {s : LS} (h : s.Ok N) {u : Nat} (hu : s.under = u + 1) : LS.Ok (N + 1) { s with rows := s.rows.tail, first := s.first + 1, under := u } := by
  have h1 := h.ul
  have h2 := h.u16
  refine ⟨h.id, ?_, ?_, ?_, ?_, h.c0, ?_, h.w0, h.w5, h.s0, ?_, h.v0, ?_, ?_, ?_⟩
  · show 1 ≤ s.first + 1; have := h.f1; omega
  · show s.first + 1 ≤ N + 1; have := h.fN; omega
  · show u ≤ s.rows.tail.length; simp; omega
  · show u ≤ 16; omega
  · show s.came ≤ _; have := h.cN; omega
  · show s.sent ≤ _; have := h.sN; omega
  · show s.vain ≤ _; have := h.vN; omega
  · show s.rows.tail.length ≤ 1000; have := h.len; simp; omega
  · intro r hr; exact h.row r (List.mem_of_mem_tail hr)
theorem LS.Ok.acks {ack : Int} : ∀ {u : Nat} {N : Int} {s : LS}, s.Ok N → s.under = u → (ackP ack u s).Ok (N + u)
  | 0, N, s, h, _ => by unfold ackP; exact h.mono (by omega)
  | u + 1, N, s, h, hu => by
    unfold ackP
    split
    · have h1 := h.ul
      have h2 := h.u16
      have := @LS.Ok.acks ack u (N + 1) { s with rows := s.rows.tail, first := s.first + 1, under := u } (by
        refine ⟨h.id, ?_, ?_, ?_, ?_, h.c0, ?_, h.w0, h.w5, h.s0, ?_, h.v0, ?_, ?_, ?_⟩
        · show 1 ≤ s.first + 1; have := h.f1; omega
        · show s.first + 1 ≤ N + 1; have := h.fN; omega
        · show u ≤ s.rows.tail.length; simp; omega
        · show u ≤ 16; omega
        · show s.came ≤ _; have := h.cN; omega
        · show s.sent ≤ _; have := h.sN; omega
        · show s.vain ≤ _; have := h.vN; omega
        · show s.rows.tail.length ≤ 1000; have := h.len; simp; omega
        · intro r hr; exact h.row r (List.mem_of_mem_tail hr)) rfl
      exact this.mono (by omega)
    · exact h.mono (by omega)
theorem LS.Ok.tick {N : Int} {s : LS} (h : s.Ok N) : (tickP s).2.Ok (N + 16) := by
  have := h.fN; have := h.cN; have := h.s0; have := h.sN; have := h.vN; have := h.u16; have := h.w0; have := h.w5
  unfold tickP
  split
  · exact ⟨h.id, h.f1, by show s.first ≤ _; omega, h.ul, h.u16, h.c0, by show s.came ≤ _; omega, by show (0 : Int) ≤ 0; omega, by show (0 : Int) < 5; omega, h.s0, by show s.sent ≤ _; omega, h.v0, by show s.vain ≤ _; omega, h.len, h.row⟩
  · split
    · exact ⟨h.id, h.f1, by show s.first ≤ _; omega, h.ul, h.u16, h.c0, by show s.came ≤ _; omega, by show 0 ≤ s.waited + 1; omega, by show s.waited + 1 < 5; omega, h.s0, by show s.sent ≤ _; omega, h.v0, by show s.vain ≤ _; omega, h.len, h.row⟩
    · exact ⟨h.id, h.f1, by show s.first ≤ _; omega, h.ul, h.u16, h.c0, by show s.came ≤ _; omega, by show (0 : Int) ≤ 0; omega, by show (0 : Int) < 5; omega, by show 0 ≤ s.sent + s.under; omega, by show s.sent + s.under ≤ _; omega, h.v0, by show s.vain ≤ _; omega, h.len, h.row⟩
/-- what a packet that came changes of an end, ahead of what goes out -/
def gotP (s : LS) (q : LP) : LS :=
  let s1 := ackP q.ack s.under s
  if q.n = 0 then s1 else if q.n = s1.came + 1 then { s1 with came := s1.came + 1 } else { s1 with vain := s1.vain + 1 }
theorem LS.Ok.got {N : Int} {s : LS} (h : s.Ok N) (q : LP) : (gotP s q).Ok (N + 17) := by
  have h0 := h.acks (ack := q.ack) rfl
  have h1 : (ackP q.ack s.under s).Ok (N + 16) := h0.mono (by have := h.u16; omega)
  unfold gotP
  obtain ⟨t, ht⟩ : ∃ t, ackP q.ack s.under s = t := ⟨_, rfl⟩
  rw [ht] at h1
  simp only [ht]
  have a1 := h1.f1; have a2 := h1.fN; have a3 := h1.c0; have a4 := h1.cN; have a5 := h1.s0; have a6 := h1.sN; have a7 := h1.v0; have a8 := h1.vN
  split
  · exact h1.mono (by omega)
  · split
    · exact ⟨h1.id, h1.f1, by show t.first ≤ _; omega, h1.ul, h1.u16, by show 0 ≤ t.came + 1; omega, by show t.came + 1 ≤ _; omega, h1.w0, h1.w5, h1.s0, by show t.sent ≤ _; omega, h1.v0, by show t.vain ≤ _; omega, h1.len, h1.row⟩
    · exact ⟨h1.id, h1.f1, by show t.first ≤ _; omega, h1.ul, h1.u16, h1.c0, by show t.came ≤ _; omega, h1.w0, h1.w5, h1.s0, by show t.sent ≤ _; omega, by show 0 ≤ t.vain + 1; omega, by show t.vain + 1 ≤ _; omega, h1.len, h1.row⟩
def newRows (s : LS) (q : LP) : List (List Int) := if q.n ≠ 0 ∧ q.n = (ackP q.ack s.under s).came + 1 then [q.row] else []
def refused (s : LS) (b : List Int) : Prop := ¬ lokP b ∨ (lparts (openF b).1).id ≠ s.id
instance (s : LS) (b : List Int) : Decidable (refused s b) := by unfold refused; exact inferInstance
theorem hearP_bad {s : LS} {b : List Int} (h : refused s b) : hearP s b = ([], [], { s with vain := s.vain + 1 }) := by
  unfold hearP
  exact if_pos (show ¬ lokP b ∨ (lparts (openF b).1).id ≠ s.id from h)
theorem hearP_ok {s : LS} {b : List Int} (h : ¬ refused s b) : hearP s b =
    if 0 < (lparts (openF b).1).n ∧ (fillP (gotP s (lparts (openF b).1))).1 = [] then
      (newRows s (lparts (openF b).1), [packP (fillP (gotP s (lparts (openF b).1))).2.id 0 (fillP (gotP s (lparts (openF b).1))).2.came []], { (fillP (gotP s (lparts (openF b).1))).2 with sent := (fillP (gotP s (lparts (openF b).1))).2.sent + 1 })
    else (newRows s (lparts (openF b).1), (fillP (gotP s (lparts (openF b).1))).1, (fillP (gotP s (lparts (openF b).1))).2) := by
  unfold hearP
  exact (if_neg (show ¬ (¬ lokP b ∨ (lparts (openF b).1).id ≠ s.id) from h)).trans rfl
theorem LS.Ok.more {N : Int} {s : LS} (h : s.Ok N) : LS.Ok (N + 1) { s with sent := s.sent + 1 } :=
  ⟨h.id, h.f1, by have := h.fN; show s.first ≤ _; omega, h.ul, h.u16, h.c0, by have := h.cN; show s.came ≤ _; omega, h.w0, h.w5, by have := h.s0; show 0 ≤ s.sent + 1; omega, by have := h.sN; show s.sent + 1 ≤ _; omega, h.v0, by have := h.vN; show s.vain ≤ _; omega, h.len, h.row⟩
theorem LS.Ok.hear {N : Int} {s : LS} (h : s.Ok N) (b : List Int) : (hearP s b).2.2.Ok (N + 40) := by
  by_cases hr : refused s b
  · rw [hearP_bad hr]
    exact ⟨h.id, h.f1, by have := h.fN; show s.first ≤ _; omega, h.ul, h.u16, h.c0, by have := h.cN; show s.came ≤ _; omega, h.w0, h.w5, h.s0, by have := h.sN; show s.sent ≤ _; omega, by have := h.v0; show 0 ≤ s.vain + 1; omega, by have := h.vN; show s.vain + 1 ≤ _; omega, h.len, h.row⟩
  · rw [hearP_ok hr]
    have h1 := (h.got (lparts (openF b).1)).fill
    split
    · exact h1.more.mono (by omega)
    · exact h1.mono (by omega)

theorem packB_bytes {id n came : Int} {row : List Int} (h1 : I64 id) (h2 : I64 n) (h3 : I64 came) (hB : Bytes row) (hl : row.length ≤ 1000000) : Bytes (packB id n came row) := by
  unfold packB
  have hz := ((num_bytes h1.1 h1.2).append (num_bytes h2.1 h2.2)).append (num_bytes h3.1 h3.2)
  split
  · exact hz.append ((num_bytes (by omega) (by omega)).append hB)
  · rw [List.append_nil]; exact hz
theorem packB_length (id n came : Int) (row : List Int) : (packB id n came row).length ≤ 40 + row.length := by
  unfold packB
  have h1 := num_length id; have h2 := num_length n; have h3 := num_length came; have h4 := num_length row.length
  split <;> simp only [List.length_append, List.length_nil] <;> omega
theorem packP_eq {id n came : Int} {row : List Int} (hl : row.length ≤ 10000) : packP id n came row = recP (packB id n came row) := by
  have := packB_length id n came row
  unfold packP encF
  rw [if_neg (by omega)]
theorem packP_bytes {id n came : Int} {row : List Int} (h1 : I64 id) (h2 : I64 n) (h3 : I64 came) (hB : Bytes row) (hl : row.length ≤ 10000) : Bytes (packP id n came row) := by
  rw [packP_eq hl]
  have := packB_length id n came row
  exact recP_bytes (packB_bytes h1 h2 h3 hB (by omega)) (by omega)
theorem packP_length {id n came : Int} {row : List Int} (hl : row.length ≤ 10000) : (packP id n came row).length ≤ 52 + row.length := by
  rw [packP_eq hl, recP_length]
  have := packB_length id n came row
  omega
theorem outP_length (s : LS) (k : Nat) : (outP s k).length = k := by simp [outP]
theorem outP_succ (s : LS) (k : Nat) : outP s (k + 1) = outP s k ++ [packP s.id (s.first + s.under + k) s.came (s.rows[s.under + k]?.getD [])] := by
  unfold outP
  rw [List.range_succ, List.map_append]
  rfl
def Small (l : List (List Int)) : Prop := ∀ r ∈ l, Bytes r ∧ r.length ≤ 5000
theorem getD_row {s : LS} {N : Int} (h : s.Ok N) (j : Nat) : Bytes (s.rows[j]?.getD []) ∧ (s.rows[j]?.getD []).length ≤ 4096 := by
  cases hj : s.rows[j]? with
  | none => exact ⟨fun x hx => by simp at hx, by simp⟩
  | some r => exact h.row r (List.mem_of_getElem? hj)
theorem LS.Ok.out {N : Int} {s : LS} (h : s.Ok N) (hN : N ≤ 1000000000000) {k : Nat} (hk : k ≤ s.room) : Small (outP s k) := by
  intro r hr
  obtain ⟨j, hj, rfl⟩ := List.mem_map.1 hr
  have := List.mem_range.1 hj
  have h16 := s.room_le
  have := h.f1; have := h.fN; have := h.u16; have := h.c0; have := h.cN
  obtain ⟨hB, hL⟩ := getD_row h (s.under + j)
  exact ⟨packP_bytes h.id (by unfold I64; omega) (by unfold I64; omega) hB (by omega), by have := packP_length (id := s.id) (n := s.first + s.under + j) (came := s.came) (row := s.rows[s.under + j]?.getD []) (by omega); omega⟩
theorem LS.Ok.fillOut {N : Int} {s : LS} (h : s.Ok N) (hN : N ≤ 1000000000000) : Small (fillP s).1 := h.out hN (Nat.le_refl _)
theorem LS.Ok.sendOut {N : Int} {s : LS} (h : s.Ok N) (hN : N ≤ 1000000000000) {p : List Int} (hB : Bytes p) : Small (sendP s p).1 := by
  unfold sendP
  split
  · intro r hr; simp at hr
  · split
    · intro r hr; simp at hr
    · rename_i h1 h2; exact (h.push hB (by omega) (by omega)).fillOut hN
theorem LS.Ok.tickOut {N : Int} {s : LS} (h : s.Ok N) (hN : N ≤ 1000000000000) : Small (tickP s).1 := by
  unfold tickP
  split
  · intro r hr; simp at hr
  · split
    · intro r hr; simp at hr
    · intro r hr
      obtain ⟨j, hj, rfl⟩ := List.mem_map.1 hr
      have := List.mem_range.1 hj
      have := h.f1; have := h.fN; have := h.u16; have := h.c0; have := h.cN
      obtain ⟨hB, hL⟩ := getD_row h j
      exact ⟨packP_bytes h.id (by unfold I64; omega) (by unfold I64; omega) hB (by omega), by have := packP_length (id := s.id) (n := s.first + j) (came := s.came) (row := s.rows[j]?.getD []) (by omega); omega⟩
theorem LS.Ok.hearOut {N : Int} {s : LS} (h : s.Ok N) (hN : N ≤ 900000000000) (b : List Int) : Small (hearP s b).2.1 := by
  by_cases hr : refused s b
  · rw [hearP_bad hr]; intro r hr; simp at hr
  · rw [hearP_ok hr]
    have h1 := h.got (lparts (openF b).1)
    have h2 := h1.fill
    split
    · intro r hr
      have hr' := List.mem_singleton.1 hr
      have := h2.c0; have := h2.cN
      rw [hr']
      exact ⟨packP_bytes h2.id (by unfold I64; omega) (by unfold I64; omega) (fun x hx => by simp at hx) (by simp), by have := packP_length (id := (fillP (gotP s (lparts (openF b).1))).2.id) (n := 0) (came := (fillP (gotP s (lparts (openF b).1))).2.came) (row := []) (by simp); simp at this ⊢; omega⟩
    · exact h1.fillOut (by omega)
end Go.Oct
