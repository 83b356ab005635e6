/-
  vm: each op by the table of functions; a program runs.
-/
import Derived.Deep.RegionHeld3
import Derived.Test.YtjdeeloemhjbhaaGreatQVm4
import Derived.Test.YtjdeeloemhjbhaaGreatQVmC
import Derived.Test.YtjdeeloemhjbhaaGreatQVmD

namespace Go.Proofs.YtjdeeloemhjbhaaGreat
open Go.RowKit Go.Sep Go.Vm

def Done (W0 : World) (p : Nat) (m : VM) (L : List Asn) (e : Ending) (w' : World) : Prop := e = .returned (.tuple #[]) ∧ Sat W0 w' (Mc p m :: L)
def Does (W0 : World) (p : Nat) (op arg : Int) (L : List Asn) (K : Nat) (cap : Array Value) : Prop :=
  ∀ w' m, m.Ok → Sat W0 w' (Mc p m :: L) → m.st.length ≤ 800 → Calls Tryz.prog K (#[.pointer (some ⟨p, 0, none⟩), .int .i64 arg] ++ cap) w' (Done W0 p (doP op arg m) L)

def Ent (K : Nat) : Prop := ∀ (args : Array Value) (w : World), (callFunc K args).run Tryz.prog w = .ok (.enter K args) w

theorem doer_any {W0 : World} {L : List Asn} (p q1 q2 q3 q4 q5 q6 q7 q8 : Nat) {j n : Nat} {arg : Int} (h1 : 1 ≤ j) (h2 : j ≤ 22) (hm : mayP j arg n = true) :
    ∃ K cap, (dv q1 q2 q3 q4 q5 q6 q7 q8)[j]? = some (.func (.func K) #[] cap) ∧ (cap = #[] ∨ ∃ q, cap = #[.pointer (some ⟨q, 0, none⟩)]) ∧ Ent K ∧ Does W0 p j arg (capt q8 (.func 104) :: capt q7 (.func 103) :: capt q6 (.func 102) :: capt q5 (.func 101) :: capt q4 (.func 100) :: capt q3 (.func 99) :: capt q2 (.func 98) :: capt q1 (.func 97) :: L) K cap := by
  have hc : j = 1 ∨ j = 2 ∨ j = 3 ∨ j = 4 ∨ j = 5 ∨ j = 6 ∨ j = 7 ∨ j = 8 ∨ j = 9 ∨ j = 10 ∨ j = 11 ∨ j = 12 ∨ j = 13 ∨ j = 14 ∨ j = 15 ∨ j = 16 ∨ j = 17 ∨ j = 18 ∨ j = 19 ∨ j = 20 ∨ j = 21 ∨ j = 22 := by omega
  rcases hc with rfl | rfl | rfl | rfl | rfl | rfl | rfl | rfl | rfl | rfl | rfl | rfl | rfl | rfl | rfl | rfl | rfl | rfl | rfl | rfl | rfl | rfl
  · refine ⟨93, #[], rfl, .inl rfl, (fun _ _ => by simp [go_sem]), fun w' m hM S hb => ?_⟩
    have hl := hM.s.len
    rw [doP_push (by omega)]
    exact number_any hl S hb arg (of_decide_eq_true ((may1 arg n).symm.trans hm))
  · refine ⟨94, #[], rfl, .inl rfl, (fun _ _ => by simp [go_sem]), fun w' m hM S hb => ?_⟩
    have hl := hM.s.len
    have ha : 0 ≤ arg ∧ arg ≤ 15 := of_decide_eq_true ((may2 arg n).symm.trans hm)
    obtain ⟨k, rfl⟩ : ∃ k : Nat, arg = (k : Int) := ⟨arg.toNat, by omega⟩
    rw [doP_load (by omega)]
    exact load_any hl S hb k (by omega)
  · refine ⟨95, #[], rfl, .inl rfl, (fun _ _ => by simp [go_sem]), fun w' m hM S hb => ?_⟩
    have hl := hM.s.len
    have ha : 0 ≤ arg ∧ arg ≤ 15 := of_decide_eq_true ((may3 arg n).symm.trans hm)
    obtain ⟨k, rfl⟩ : ∃ k : Nat, arg = (k : Int) := ⟨arg.toNat, by omega⟩
    rw [doP_store (by omega)]
    exact store_any hl S hb k (by omega) (v := m.pop.1) (m' := m.pop.2) rfl
  · refine ⟨119, #[.pointer (some ⟨q1, 0, none⟩)], rfl, .inr ⟨q1, rfl⟩, (fun _ _ => by simp [go_sem]), fun w' m hM S hb => ?_⟩
    have hl := hM.s.len
    have a1 := hM.pop
    have a2 := a1.1.pop
    rw [doP_two (by omega)]
    exact two4_any hl S hb (fun w' h => h.cell 7 rfl 0) arg (v := m.pop.1) (m' := m.pop.2) (u := m.pop.2.pop.1) (m2 := m.pop.2.pop.2) rfl rfl a1.2 a2.2
  · refine ⟨119, #[.pointer (some ⟨q2, 0, none⟩)], rfl, .inr ⟨q2, rfl⟩, (fun _ _ => by simp [go_sem]), fun w' m hM S hb => ?_⟩
    have hl := hM.s.len
    have a1 := hM.pop
    have a2 := a1.1.pop
    rw [doP_two (by omega)]
    exact two5_any hl S hb (fun w' h => h.cell 6 rfl 0) arg (v := m.pop.1) (m' := m.pop.2) (u := m.pop.2.pop.1) (m2 := m.pop.2.pop.2) rfl rfl a1.2 a2.2
  · refine ⟨119, #[.pointer (some ⟨q3, 0, none⟩)], rfl, .inr ⟨q3, rfl⟩, (fun _ _ => by simp [go_sem]), fun w' m hM S hb => ?_⟩
    have hl := hM.s.len
    have a1 := hM.pop
    have a2 := a1.1.pop
    rw [doP_two (by omega)]
    exact two6_any hl S hb (fun w' h => h.cell 5 rfl 0) arg (v := m.pop.1) (m' := m.pop.2) (u := m.pop.2.pop.1) (m2 := m.pop.2.pop.2) rfl rfl a1.2 a2.2
  · refine ⟨119, #[.pointer (some ⟨q4, 0, none⟩)], rfl, .inr ⟨q4, rfl⟩, (fun _ _ => by simp [go_sem]), fun w' m hM S hb => ?_⟩
    have hl := hM.s.len
    have a1 := hM.pop
    have a2 := a1.1.pop
    rw [doP_two (by omega)]
    exact two7_any hl S hb (fun w' h => h.cell 4 rfl 0) arg (v := m.pop.1) (m' := m.pop.2) (u := m.pop.2.pop.1) (m2 := m.pop.2.pop.2) rfl rfl a1.2 a2.2
  · refine ⟨119, #[.pointer (some ⟨q5, 0, none⟩)], rfl, .inr ⟨q5, rfl⟩, (fun _ _ => by simp [go_sem]), fun w' m hM S hb => ?_⟩
    have hl := hM.s.len
    have a1 := hM.pop
    have a2 := a1.1.pop
    rw [doP_two (by omega)]
    exact two8_any hl S hb (fun w' h => h.cell 3 rfl 0) arg (v := m.pop.1) (m' := m.pop.2) (u := m.pop.2.pop.1) (m2 := m.pop.2.pop.2) rfl rfl a1.2 a2.2
  · refine ⟨119, #[.pointer (some ⟨q6, 0, none⟩)], rfl, .inr ⟨q6, rfl⟩, (fun _ _ => by simp [go_sem]), fun w' m hM S hb => ?_⟩
    have hl := hM.s.len
    have a1 := hM.pop
    have a2 := a1.1.pop
    rw [doP_two (by omega)]
    exact two9_any hl S hb (fun w' h => h.cell 2 rfl 0) arg (v := m.pop.1) (m' := m.pop.2) (u := m.pop.2.pop.1) (m2 := m.pop.2.pop.2) rfl rfl a1.2 a2.2
  · refine ⟨119, #[.pointer (some ⟨q7, 0, none⟩)], rfl, .inr ⟨q7, rfl⟩, (fun _ _ => by simp [go_sem]), fun w' m hM S hb => ?_⟩
    have hl := hM.s.len
    have a1 := hM.pop
    have a2 := a1.1.pop
    rw [doP_two (by omega)]
    exact two10_any hl S hb (fun w' h => h.cell 1 rfl 0) arg (v := m.pop.1) (m' := m.pop.2) (u := m.pop.2.pop.1) (m2 := m.pop.2.pop.2) rfl rfl a1.2 a2.2
  · refine ⟨119, #[.pointer (some ⟨q8, 0, none⟩)], rfl, .inr ⟨q8, rfl⟩, (fun _ _ => by simp [go_sem]), fun w' m hM S hb => ?_⟩
    have hl := hM.s.len
    have a1 := hM.pop
    have a2 := a1.1.pop
    rw [doP_two (by omega)]
    exact two11_any hl S hb (fun w' h => h.cell 0 rfl 0) arg (v := m.pop.1) (m' := m.pop.2) (u := m.pop.2.pop.1) (m2 := m.pop.2.pop.2) rfl rfl a1.2 a2.2
  · refine ⟨105, #[], rfl, .inl rfl, (fun _ _ => by simp [go_sem]), fun w' m hM S hb => ?_⟩
    have hl := hM.s.len
    rw [doP_not (by omega)]
    exact not_any hl S hb arg (v := m.pop.1) (m' := m.pop.2) rfl
  · refine ⟨106, #[], rfl, .inl rfl, (fun _ _ => by simp [go_sem]), fun w' m hM S hb => ?_⟩
    have hl := hM.s.len
    rw [doP_dup (by omega)]
    exact dup_any hl S hb arg (v := m.pop.1) (m' := m.pop.2) rfl
  · refine ⟨107, #[], rfl, .inl rfl, (fun _ _ => by simp [go_sem]), fun w' m hM S hb => ?_⟩
    have hl := hM.s.len
    rw [doP_swap (by omega)]
    exact swap_any hl S hb arg (v := m.pop.1) (m' := m.pop.2) (u := m.pop.2.pop.1) (m2 := m.pop.2.pop.2) rfl rfl
  · refine ⟨108, #[], rfl, .inl rfl, (fun _ _ => by simp [go_sem]), fun w' m hM S hb => ?_⟩
    have hl := hM.s.len
    rw [doP_drop (by omega)]
    exact drop_any hl S hb arg
  · refine ⟨109, #[], rfl, .inl rfl, (fun _ _ => by simp [go_sem]), fun w' m hM S hb => ?_⟩
    have hl := hM.s.len
    rw [doP_input (by omega)]
    exact input_any hl S hb hM.i0 hM.i1 arg (of_decide_eq_true ((may16 arg n).symm.trans hm))
  · refine ⟨110, #[], rfl, .inl rfl, (fun _ _ => by simp [go_sem]), fun w' m hM S hb => ?_⟩
    have hl := hM.s.len
    rw [doP_frame (by omega)]
    exact frame_any hl S hb hM.frame arg
  · refine ⟨111, #[], rfl, .inl rfl, (fun _ _ => by simp [go_sem]), fun w' m hM S hb => ?_⟩
    have hl := hM.s.len
    rw [doP_jump (by omega)]
    exact jump_any hl S hb arg
  · refine ⟨112, #[], rfl, .inl rfl, (fun _ _ => by simp [go_sem]), fun w' m hM S hb => ?_⟩
    have hl := hM.s.len
    rw [doP_zero (by omega)]
    exact zero_any hl S hb arg (v := m.pop.1) (m' := m.pop.2) rfl
  · refine ⟨113, #[], rfl, .inl rfl, (fun _ _ => by simp [go_sem]), fun w' m hM S hb => ?_⟩
    have hl := hM.s.len
    rw [doP_win (by omega)]
    exact win_any hl S hb arg
  · refine ⟨114, #[], rfl, .inl rfl, (fun _ _ => by simp [go_sem]), fun w' m hM S hb => ?_⟩
    have hl := hM.s.len
    rw [doP_rand (by omega)]
    exact rand_any hl S hb hM.s.seed arg
  · refine ⟨115, #[], rfl, .inl rfl, (fun _ _ => by simp [go_sem]), fun w' m hM S hb => ?_⟩
    have hl := hM.s.len
    rw [doP_halt (by omega)]
    exact halt_any hl S hb arg
end Go.Proofs.YtjdeeloemhjbhaaGreat
