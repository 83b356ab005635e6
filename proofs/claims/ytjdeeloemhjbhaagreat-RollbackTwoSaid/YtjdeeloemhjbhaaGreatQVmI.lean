/-
  vm: games, states, pairs as they are handed in.
-/
import Derived.Test.YtjdeeloemhjbhaaGreatArgs
import Derived.Test.YtjdeeloemhjbhaaGreatQVmC

namespace Go.Proofs.YtjdeeloemhjbhaaGreat
open Go.RowKit Go.Sep Go.Vm

theorem ins_flat {w : World} : ∀ {els : List (List Value)} {xs : List (Int × Int)}, Each ((Kd.pair (Kd.int .i64) (Kd.int .i64)).R w) els xs → els.flatten = insv xs
  | [], [], _ => rfl
  | [], x :: r, h => by simp [Each] at h
  | e :: r, [], h => by simp [Each] at h
  | e :: r, x :: l, h => by
    obtain ⟨c1, c2, he, h1, h2⟩ := h.2 0 e x rfl rfl
    have ih := ins_flat (els := r) (xs := l) ⟨by simpa using h.1, fun i c y hc hy => h.2 (i + 1) c y (by simpa using hc) (by simpa using hy)⟩
    rw [List.flatten_cons, ih, he, h1.1, h2.1]
    rfl
theorem game_rd {w : World} {c : List Value} {x : (Sl (Int × Int)) × (Int × Int)} (r : (Kd.pair (Kd.sl (Kd.pair (Kd.int .i64) (Kd.int .i64))) (Kd.pair (Kd.int .i64) (Kd.int .i64))).R w c x) :
    ∃ (a : Option Addr) (n cp : Nat) (code : List (Int × Int)) (cap fuel : Int), c = [.slice a n cp, .int .i64 cap, .int .i64 fuel] ∧ Rd w a (insv code) ∧ code.length = n ∧ n ≤ maxLen := by
  obtain ⟨c1, c2, rfl, ⟨h1, h2, h3, h4, h5, h6, _⟩, c3, c4, rfl, h7, h8⟩ := r
  refine ⟨x.1.ao, x.1.len, x.1.cap, x.1.xs, x.2.1, x.2.2, ?_, ?_, h2, by omega⟩
  · rw [h1, h7.1, h8.1]; rfl
  · rw [← ins_flat h4]; exact h3
theorem i32s_flat {w : World} : ∀ {els : List (List Value)} {xs : List Int}, Each ((Kd.int .i32).R w) els xs → els.flatten = xs.map (Value.int .i32) ∧ ∀ x ∈ xs, -2147483648 ≤ x ∧ x ≤ 2147483647
  | [], [], _ => ⟨rfl, by simp⟩
  | [], x :: r, h => by simp [Each] at h
  | e :: r, [], h => by simp [Each] at h
  | e :: r, x :: l, h => by
    obtain ⟨h1, h2⟩ := h.2 0 e x rfl rfl
    obtain ⟨h3, h4⟩ := i32s_flat (els := r) (xs := l) ⟨by simpa using h.1, fun i c y hc hy => h.2 (i + 1) c y (by simpa using hc) (by simpa using hy)⟩
    have b : -2147483648 ≤ x ∧ x ≤ 2147483647 := by simpa [Lit.wf, IntKind.min, IntKind.max, IntKind.signed, IntKind.bits] using h2
    refine ⟨by rw [List.flatten_cons, h3, h1]; rfl, fun y hy => ?_⟩
    rcases List.mem_cons.1 hy with rfl | hy
    · exact b
    · exact h4 y hy
theorem state_rd {w : World} {c : List Value} {x : Int × ((List Int) × (Int × (Bool × Int)))} (r : (Kd.pair (Kd.int .i64) (Kd.pair (Kd.arr 16 (Kd.int .i32)) (Kd.pair (Kd.int .u32) (Kd.pair Kd.bool (Kd.int .i64))))).R w c x) :
    ∃ s : VS, s.Ok ∧ c = svals s := by
  obtain ⟨f, cs, d, o, n⟩ := x
  obtain ⟨c1, c2, rfl, h1, c3, c4, rfl, ⟨hl, els, rfl, he⟩, c5, c6, rfl, h5, c7, c8, rfl, h7, h8⟩ := r
  obtain ⟨i1, i2⟩ := i32s_flat he
  have b1 : -9223372036854775808 ≤ f ∧ f ≤ 9223372036854775807 := by simpa [Lit.wf, IntKind.min, IntKind.max, IntKind.signed, IntKind.bits] using h1.2
  have b5 : 0 ≤ d ∧ d ≤ 4294967295 := by simpa [Lit.wf, IntKind.min, IntKind.max, IntKind.signed, IntKind.bits] using h5.2
  have b8 : -9223372036854775808 ≤ n ∧ n ≤ 9223372036854775807 := by simpa [Lit.wf, IntKind.min, IntKind.max, IntKind.signed, IntKind.bits] using h8.2
  have e1 : c1 = [.int .i64 f] := h1.1
  have e5 : c5 = [.int .u32 d] := h5.1
  have e7 : c7 = [.bool o] := h7
  have e8 : c8 = [.int .i64 n] := h8.1
  refine ⟨⟨f, cs, d, o, n⟩, ⟨hl, i2, ⟨b1.1, by show f < _; omega⟩, ⟨b5.1, by show d < _; omega⟩, ⟨b8.1, by show n < _; omega⟩⟩, ?_⟩
  rw [e1, i1, e5, e7, e8]
  rfl
theorem pair2_rd {w : World} {c : List Value} {x : List Int} (r : (Kd.arr 2 (Kd.int .u16)).R w c x) : ∃ i0 i1 : Int, c = [.int .u16 i0, .int .u16 i1] ∧ (0 ≤ i0 ∧ i0 < 65536) ∧ (0 ≤ i1 ∧ i1 < 65536) := by
  obtain ⟨hx, els, rfl, hl, he⟩ := r
  obtain ⟨i0, i1, rfl⟩ : ∃ i0 i1, x = [i0, i1] := by
    match x, hx with
    | [i0, i1], _ => exact ⟨i0, i1, rfl⟩
  obtain ⟨e0, e1, rfl⟩ : ∃ e0 e1, els = [e0, e1] := by
    match els, hl with
    | [e0, e1], _ => exact ⟨e0, e1, rfl⟩
  obtain ⟨rfl, w0⟩ := he 0 e0 i0 rfl rfl
  obtain ⟨rfl, w1⟩ := he 1 e1 i1 rfl rfl
  have b0 : 0 ≤ i0 ∧ i0 ≤ 65535 := by simpa [Lit.wf, IntKind.min, IntKind.max, IntKind.signed, IntKind.bits] using w0
  have b1 : 0 ≤ i1 ∧ i1 ≤ 65535 := by simpa [Lit.wf, IntKind.min, IntKind.max, IntKind.signed, IntKind.bits] using w1
  exact ⟨i0, i1, rfl, ⟨b0.1, by omega⟩, ⟨b1.1, by omega⟩⟩
def pairsv (l : List (Int × Int)) : List Value := (l.map fun x => [Value.int .u16 x.1, .int .u16 x.2]).flatten
theorem pairsv_at : ∀ {l : List (Int × Int)} {k : Nat} {x : Int × Int}, l[k]? = some x → (pairsv l)[k * 2]? = some (.int .u16 x.1) ∧ (pairsv l)[k * 2 + 1]? = some (.int .u16 x.2)
  | [], k, x, h => by simp at h
  | y :: r, 0, x, h => by
    obtain rfl : y = x := by simpa using h
    exact ⟨rfl, rfl⟩
  | y :: r, k + 1, x, h => by
    have ih := pairsv_at (l := r) (k := k) (x := x) (by simpa using h)
    rw [show (k + 1) * 2 = k * 2 + 1 + 1 by omega]
    exact ih
theorem pairsv_cells {w : World} {a : Option Addr} {l : List (Int × Int)} (h : Rd w a (pairsv l)) {k : Nat} {x : Int × Int} (hx : l[k]? = some x) : ∃ b off, a = some ⟨b, off, none⟩ ∧
    w.cell? ⟨b, off + k * 2, none⟩ = some (.int .u16 x.1) ∧ w.cell? ⟨b, off + k * 2 + 1, none⟩ = some (.int .u16 x.2) := by
  obtain ⟨h1, h2⟩ := pairsv_at hx
  obtain ⟨b, off, rfl, c1⟩ := h _ _ h1
  exact ⟨b, off, rfl, c1, by have := h.at h2; rwa [← Nat.add_assoc] at this⟩
theorem pairs_flat {w : World} : ∀ {els : List (List Value)} {xs : List (List Int)}, Each ((Kd.arr 2 (Kd.int .u16)).R w) els xs → ∃ ps : List (Int × Int), ps.length = xs.length ∧ els.flatten = pairsv ps ∧ ∀ x ∈ ps, (0 ≤ x.1 ∧ x.1 < 65536) ∧ (0 ≤ x.2 ∧ x.2 < 65536)
  | [], [], _ => ⟨[], rfl, rfl, by simp⟩
  | [], x :: r, h => by simp [Each] at h
  | e :: r, [], h => by simp [Each] at h
  | e :: r, x :: l, h => by
    obtain ⟨i0, i1, he, b0, b1⟩ := pair2_rd (h.2 0 e x rfl rfl)
    obtain ⟨ps, h1, h2, h3⟩ := pairs_flat (els := r) (xs := l) ⟨by simpa using h.1, fun i c y hc hy => h.2 (i + 1) c y (by simpa using hc) (by simpa using hy)⟩
    refine ⟨(i0, i1) :: ps, by simp [h1], ?_, fun y hy => ?_⟩
    · rw [List.flatten_cons, h2, he]; rfl
    · rcases List.mem_cons.1 hy with rfl | hy
      · exact ⟨b0, b1⟩
      · exact h3 y hy
theorem pairs_rd {w : World} {s : Sl (List Int)} {c : List Value} (h : (Kd.sl (Kd.arr 2 (Kd.int .u16))).R w c s) : ∃ ps : List (Int × Int), Rd w s.ao (pairsv ps) ∧ ps.length = s.len ∧ ∀ x ∈ ps, (0 ≤ x.1 ∧ x.1 < 65536) ∧ (0 ≤ x.2 ∧ x.2 < 65536) := by
  obtain ⟨_, h2, h3, h4, _⟩ := h
  obtain ⟨ps, g1, g2, g3⟩ := pairs_flat h4
  exact ⟨ps, by rw [← g2]; exact h3, g1.trans h2, g3⟩
end Go.Proofs.YtjdeeloemhjbhaaGreat
