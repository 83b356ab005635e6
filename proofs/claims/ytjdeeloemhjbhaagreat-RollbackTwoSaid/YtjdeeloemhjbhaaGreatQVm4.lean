/-
  vm: how each op is done: the table of functions.
-/
import Derived.Test.YtjdeeloemhjbhaaGreatQVm3

namespace Go.Proofs.YtjdeeloemhjbhaaGreat
open Go.RowKit Go.Sep Go.Vm

def fnv (f : Fn) : Value := .func f #[] #[]
abbrev tw (q : Nat) : Value := .func (.func 119) #[] #[.pointer (some ⟨q, 0, none⟩)]
def dv (q1 q2 q3 q4 q5 q6 q7 q8 : Nat) : List Value := [.nilFunc, .func (.func 93) #[] #[], .func (.func 94) #[] #[], .func (.func 95) #[] #[], tw q1, tw q2, tw q3, tw q4, tw q5, tw q6, tw q7, tw q8, .func (.func 105) #[] #[], .func (.func 106) #[] #[], .func (.func 107) #[] #[], .func (.func 108) #[] #[], .func (.func 109) #[] #[], .func (.func 110) #[] #[], .func (.func 111) #[] #[], .func (.func 112) #[] #[], .func (.func 113) #[] #[], .func (.func 114) #[] #[], .func (.func 115) #[] #[]]
def capt (q : Nat) (f : Fn) : Asn := blk q [.func f #[] #[]] 161

set_option maxRecDepth 100000 in
theorem vtwo_any {W0 w : World} {L : List Asn} (S : Sat W0 w L) (f : Fn) :
    Calls Tryz.prog 96 #[.func f #[] #[]] w fun e w' => ∃ q, e = .returned (tw q) ∧ Sat W0 w' (capt q f :: L) := by
  have hmf : ∀ (fn : Fn) (first cap : Array Value) (w : World), (Instr.makeFunc fn first cap).run Tryz.prog w = .ok (.func fn first cap) w := fun _ _ _ _ => rfl
  have S1 := S.alloc [.func f #[] #[]] 161
  go_enter Tryz.func96, Tryz.ntmps96
  go_wp2_with fail
  go_ret
  exact ⟨_, rfl, S1⟩

def dz : List Value := [.nilFunc, .nilFunc, .nilFunc, .nilFunc, .nilFunc, .nilFunc, .nilFunc, .nilFunc, .nilFunc, .nilFunc, .nilFunc, .nilFunc, .nilFunc, .nilFunc, .nilFunc, .nilFunc, .nilFunc, .nilFunc, .nilFunc, .nilFunc, .nilFunc, .nilFunc, .nilFunc]
theorem dv_one (q1 q2 q3 q4 q5 q6 q7 q8 : Nat) : ∀ u ∈ dv q1 q2 q3 q4 q5 q6 q7 q8, u.oneCell' = true := by
  intro u hu
  simp only [dv, List.mem_cons, List.not_mem_nil, or_false] at hu
  rcases hu with rfl | rfl | rfl | rfl | rfl | rfl | rfl | rfl | rfl | rfl | rfl | rfl | rfl | rfl | rfl | rfl | rfl | rfl | rfl | rfl | rfl | rfl | rfl <;> rfl
theorem Tryz.sizeD : (Tryz.prog.info? 159).map (·.size) = some 23 := by kernel_rfl

set_option maxRecDepth 100000 in
theorem doers_any {W0 w : World} {L : List Asn} (S : Sat W0 w L) :
    Calls Tryz.prog 88 #[] w fun e w' => ∃ q1 q2 q3 q4 q5 q6 q7 q8, e = .returned (.agg (dv q1 q2 q3 q4 q5 q6 q7 q8).toArray) ∧ Sat W0 w' (capt q8 (.func 104) :: capt q7 (.func 103) :: capt q6 (.func 102) :: capt q5 (.func 101) :: capt q4 (.func 100) :: capt q3 (.func 99) :: capt q2 (.func 98) :: capt q1 (.func 97) :: L) := by
  have S1 : Sat W0 (w.alloc (.cells #[.nilFunc, .nilFunc, .nilFunc, .nilFunc, .nilFunc, .nilFunc, .nilFunc, .nilFunc, .nilFunc, .nilFunc, .nilFunc, .nilFunc, .nilFunc, .nilFunc, .nilFunc, .nilFunc, .nilFunc, .nilFunc, .nilFunc, .nilFunc, .nilFunc, .nilFunc, .nilFunc] 159)) (blk w.heap.size dz 159 :: L) := S.alloc dz _
  go_enter Tryz.func88, Tryz.ntmps88
  go_wp2_with (first
    | (refine wpList_store_sat (news := dv q1 q2 q3 q4 q5 q6 q7 q8) (n := 23) rfl 159 _ _ rfl (S9.sel [8]) rfl rfl rfl (by decide) Tryz.sizeD (dv_one q1 q2 q3 q4 q5 q6 q7 q8) ?_; intro w9 S10)
    | (go_at_call 96; refine (vtwo_any S8 (.func 104)).mono ?_; rintro e w8 ⟨q8, rfl, S9⟩)
    | (go_at_call 96; refine (vtwo_any S7 (.func 103)).mono ?_; rintro e w7 ⟨q7, rfl, S8⟩)
    | (go_at_call 96; refine (vtwo_any S6 (.func 102)).mono ?_; rintro e w6 ⟨q6, rfl, S7⟩)
    | (go_at_call 96; refine (vtwo_any S5 (.func 101)).mono ?_; rintro e w5 ⟨q5, rfl, S6⟩)
    | (go_at_call 96; refine (vtwo_any S4 (.func 100)).mono ?_; rintro e w4 ⟨q4, rfl, S5⟩)
    | (go_at_call 96; refine (vtwo_any S3 (.func 99)).mono ?_; rintro e w3 ⟨q3, rfl, S4⟩)
    | (go_at_call 96; refine (vtwo_any S2 (.func 98)).mono ?_; rintro e w2 ⟨q2, rfl, S3⟩)
    | (go_at_call 96; refine (vtwo_any S1 (.func 97)).mono ?_; rintro e w1 ⟨q1, rfl, S2⟩))
  have S11 : Sat W0 w9 (blk w.heap.size (dv q1 q2 q3 q4 q5 q6 q7 q8) 159 :: capt q8 (.func 104) :: capt q7 (.func 103) :: capt q6 (.func 102) :: capt q5 (.func 101) :: capt q4 (.func 100) :: capt q3 (.func 99) :: capt q2 (.func 98) :: capt q1 (.func 97) :: L) := S10
  refine bodyPost_ret (results_cell_sat rfl _ S11 rfl Tryz.underlying159 rfl Tryz.sizeD) rfl ⟨q1, q2, q3, q4, q5, q6, q7, q8, rfl, S11.tail⟩
end Go.Proofs.YtjdeeloemhjbhaaGreat
