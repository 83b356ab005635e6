/-
  link, plain: an end that only sends; its Ticks; a packet of another link.
-/
import Derived.Test.YtdgalljalcediaaLiQ
namespace Go.Oct
open Go.RowKit

def PS (id : Int) (rs : List (List Int)) : LS := ⟨id, rs, 1, min rs.length 16, 0, 0, ((min rs.length 16 : Nat) : Int), 0⟩
theorem PS_nil (id : Int) : PS id [] = LS.new id := rfl
theorem send_PS {id : Int} {rs : List (List Int)} {p : List Int} (hp : p.length ≤ 4096) (hl : rs.length < 1000) :
    (sendP (PS id rs) p).2.2 = PS id (rs ++ [p]) ∧ (sendP (PS id rs) p).2.1 = 0 ∧ (sendP (PS id rs) p).1.length = (if rs.length < 16 then 1 else 0) ∧
      (rs.length < 16 → (sendP (PS id rs) p).1 = [packP id ((rs.length : Int) + 1) 0 p]) := by
  have hl2 : ¬ 1000 ≤ (PS id rs).rows.length := by show ¬ 1000 ≤ rs.length; omega
  have hroom : LS.room { PS id rs with rows := rs ++ [p] } = if rs.length < 16 then 1 else 0 := by
    show min (rs ++ [p]).length 16 - min rs.length 16 = _
    rw [List.length_append, List.length_singleton]
    split <;> omega
  unfold sendP
  rw [if_neg (by omega), if_neg hl2]
  refine ⟨?_, rfl, ?_, fun h16 => ?_⟩
  · show LS.went { PS id rs with rows := rs ++ [p] } (LS.room { PS id rs with rows := rs ++ [p] }) = _
    rw [hroom]
    unfold LS.went PS
    simp only [List.length_append, List.length_singleton, LS.mk.injEq, true_and]
    by_cases h16 : rs.length < 16
    · simp only [if_pos h16]
      exact ⟨by omega, by simp, by omega, trivial⟩
    · simp only [if_neg h16]
      exact ⟨by omega, by simp, by omega, trivial⟩
  · show (outP _ _).length = _
    rw [outP_length]
    exact hroom
  · show outP { PS id rs with rows := rs ++ [p] } (LS.room { PS id rs with rows := rs ++ [p] }) = _
    rw [hroom, if_pos h16]
    unfold outP
    simp only [List.range_one, List.map_cons, List.map_nil]
    have e1 : ((PS id rs).under : Nat) = rs.length := by show min rs.length 16 = _; omega
    have e2 : (rs ++ [p])[rs.length + 0]?.getD [] = p := by rw [Nat.add_zero, List.getElem?_append_right (Nat.le_refl _)]; simp
    show [packP id (1 + ((PS id rs).under : Int) + ((0 : Nat) : Int)) 0 ((rs ++ [p])[(PS id rs).under + 0]?.getD [])] = _
    rw [e1, e2]
    congr 2
    omega
theorem send_full {id : Int} {rs : List (List Int)} {p : List Int} (hp : p.length ≤ 4096) (hl : 1000 ≤ rs.length) : sendP (PS id rs) p = ([], 6, PS id rs) := by
  unfold sendP
  rw [if_neg (by omega), if_pos (show 1000 ≤ (PS id rs).rows.length from hl)]
theorem PS_ok {id : Int} {rs : List (List Int)} (hid : I64 id) (hl : rs.length ≤ 1000) (h : ∀ r ∈ rs, Bytes r ∧ r.length ≤ 4096) : (PS id rs).Ok 1000 := by
  refine ⟨hid, by show (1 : Int) ≤ 1; omega, by show (1 : Int) ≤ 1000; omega, ?_, ?_, by show (0 : Int) ≤ 0; omega, by show (0 : Int) ≤ 1000; omega, by show (0 : Int) ≤ 0; omega, by show (0 : Int) < 5; omega, ?_, ?_, by show (0 : Int) ≤ 0; omega, by show (0 : Int) ≤ 1000; omega, hl, h⟩
  · show min rs.length 16 ≤ rs.length; omega
  · show min rs.length 16 ≤ 16; omega
  · show (0 : Int) ≤ ((min rs.length 16 : Nat) : Int); omega
  · show ((min rs.length 16 : Nat) : Int) ≤ 1000; omega
/-- behind so many Ticks -/
def TS (id : Int) (rs : List (List Int)) (t : Nat) : LS := ⟨id, rs, 1, min rs.length 16, 0, if rs.length = 0 then 0 else ((t % 5 : Nat) : Int), ((min rs.length 16 * (1 + t / 5) : Nat) : Int), 0⟩
theorem TS_zero (id : Int) (rs : List (List Int)) : TS id rs 0 = PS id rs := by
  unfold TS PS
  simp
theorem tick_TS {id : Int} {rs : List (List Int)} (t : Nat) : (tickP (TS id rs t)).2 = TS id rs (t + 1) ∧ (tickP (TS id rs t)).1.length = if (t + 1) % 5 = 0 then min rs.length 16 else 0 := by
  by_cases h0 : rs.length = 0
  · have hu : (TS id rs t).under = 0 := by show min rs.length 16 = 0; omega
    have e : tickP (TS id rs t) = ([], { TS id rs t with waited := 0 }) := by unfold tickP; rw [if_pos hu]
    rw [e]
    refine ⟨?_, ?_⟩
    · unfold TS
      simp [h0]
    · simp [h0]
  · have hu : ¬ (TS id rs t).under = 0 := by show ¬ min rs.length 16 = 0; omega
    have hw : (TS id rs t).waited = ((t % 5 : Nat) : Int) := by show (if rs.length = 0 then 0 else _) = _; rw [if_neg h0]
    by_cases h5 : (t + 1) % 5 = 0
    · have e : tickP (TS id rs t) = ((List.range (TS id rs t).under).map fun j : Nat => packP (TS id rs t).id ((TS id rs t).first + j) (TS id rs t).came ((TS id rs t).rows[j]?.getD []), { TS id rs t with waited := 0, sent := (TS id rs t).sent + (TS id rs t).under }) := by
        unfold tickP; rw [if_neg hu, if_neg (by rw [hw]; omega)]
      rw [e]
      refine ⟨?_, ?_⟩
      · unfold TS
        simp only [LS.mk.injEq, true_and, if_neg h0, and_true]
        refine ⟨by omega, ?_⟩
        have : (t + 1) / 5 = t / 5 + 1 := by omega
        rw [this]
        rw [← Int.natCast_add]
        congr 1
      · rw [if_pos h5, List.length_map, List.length_range]; rfl
    · have e : tickP (TS id rs t) = ([], { TS id rs t with waited := (TS id rs t).waited + 1 }) := by
        unfold tickP; rw [if_neg hu, if_pos (by rw [hw]; omega)]
      rw [e]
      refine ⟨?_, by rw [if_neg h5]; rfl⟩
      show { TS id rs t with waited := (TS id rs t).waited + 1 } = _
      rw [hw]
      unfold TS
      simp only [LS.mk.injEq, true_and, if_neg h0, and_true]
      refine ⟨by omega, ?_⟩
      have : (t + 1) / 5 = t / 5 := by omega
      rw [this]
theorem TS_ok {id : Int} {rs : List (List Int)} (hid : I64 id) (hl : rs.length ≤ 1000) (h : ∀ r ∈ rs, Bytes r ∧ r.length ≤ 4096) {t : Nat} (ht : t ≤ 1000) : (TS id rs t).Ok 100000 := by
  have hm : min rs.length 16 * (1 + t / 5) ≤ 16 * 201 := Nat.mul_le_mul (by omega) (by omega)
  refine ⟨hid, by show (1 : Int) ≤ 1; omega, by show (1 : Int) ≤ 100000; omega, ?_, ?_, by show (0 : Int) ≤ 0; omega, by show (0 : Int) ≤ 100000; omega, ?_, ?_, ?_, ?_, by show (0 : Int) ≤ 0; omega, by show (0 : Int) ≤ 100000; omega, hl, h⟩
  · show min rs.length 16 ≤ rs.length; omega
  · show min rs.length 16 ≤ 16; omega
  · show 0 ≤ (if rs.length = 0 then 0 else ((t % 5 : Nat) : Int)); split <;> omega
  · show (if rs.length = 0 then 0 else ((t % 5 : Nat) : Int)) < 5; split <;> omega
  · show (0 : Int) ≤ ((min rs.length 16 * (1 + t / 5) : Nat) : Int); omega
  · show ((min rs.length 16 * (1 + t / 5) : Nat) : Int) ≤ 100000; omega
theorem hear_other {a b : Int} (hne : a ≠ b) (ha : I64 a) {row : List Int} (hl : row.length ≤ 4096) : hearP (LS.new b) (packP a 1 0 row) = ([], [], { LS.new b with vain := 1 }) := by
  have h : refused (LS.new b) (packP a 1 0 row) := by
    right
    rw [openF_pack (by omega)]
    dsimp only
    rw [lparts_pack ha (by unfold I64; omega) (by unfold I64; omega) (by omega) (fun h => absurd h (by decide))]
    exact hne
  rw [hearP_bad h]
  rfl
end Go.Oct
