/-
  vm: how each op is done: the table of functions.
-/
import Derived.Test.YtjdeeloemhjbhaaVm3
namespace Go.Proofs.Ytjdeeloemhjbhaa
open Go.RowKit Go.Sep Go.Vm

def fnv (f : Fn) : Value := .func f #[] #[]
abbrev tw (q : Nat) : Value := .func (.func 86) #[] #[.pointer (some ⟨q, 0, none⟩)]
def dv (q1 q2 q3 q4 q5 q6 q7 q8 : Nat) : List Value := [.nilFunc, .func (.func 61) #[] #[], .func (.func 62) #[] #[], .func (.func 63) #[] #[], tw q1, tw q2, tw q3, tw q4, tw q5, tw q6, tw q7, tw q8, .func (.func 73) #[] #[], .func (.func 74) #[] #[], .func (.func 75) #[] #[], .func (.func 76) #[] #[], .func (.func 77) #[] #[], .func (.func 78) #[] #[], .func (.func 79) #[] #[], .func (.func 80) #[] #[], .func (.func 81) #[] #[], .func (.func 82) #[] #[], .func (.func 83) #[] #[]]
def capt (q : Nat) (f : Fn) : Asn := blk q [.func f #[] #[]] 125

set_option maxRecDepth 100000 in
theorem vtwo_any {W0 w : World} {L : List Asn} (S : Sat W0 w L) (f : Fn) :
    Calls Try.prog 64 #[.func f #[] #[]] w fun e w' => ∃ q, e = .returned (tw q) ∧ Sat W0 w' (capt q f :: L) := by
  have hmf : ∀ (fn : Fn) (first cap : Array Value) (w : World), (Instr.makeFunc fn first cap).run Try.prog w = .ok (.func fn first cap) w := fun _ _ _ _ => rfl
  have S1 := S.alloc [.func f #[] #[]] 125
  go_enter Try.func64, Try.ntmps64
  go_wp2_with fail
  go_ret
  exact ⟨_, rfl, S1⟩

def dz : List Value := [.nilFunc, .nilFunc, .nilFunc, .nilFunc, .nilFunc, .nilFunc, .nilFunc, .nilFunc, .nilFunc, .nilFunc, .nilFunc, .nilFunc, .nilFunc, .nilFunc, .nilFunc, .nilFunc, .nilFunc, .nilFunc, .nilFunc, .nilFunc, .nilFunc, .nilFunc, .nilFunc]
theorem dv_one (q1 q2 q3 q4 q5 q6 q7 q8 : Nat) : ∀ u ∈ dv q1 q2 q3 q4 q5 q6 q7 q8, u.oneCell' = true := by
  intro u hu
  simp only [dv, List.mem_cons, List.not_mem_nil, or_false] at hu
  rcases hu with rfl | rfl | rfl | rfl | rfl | rfl | rfl | rfl | rfl | rfl | rfl | rfl | rfl | rfl | rfl | rfl | rfl | rfl | rfl | rfl | rfl | rfl | rfl <;> rfl
theorem Try.sizeD : (Try.prog.info? 122).map (·.size) = some 23 := by kernel_rfl

set_option maxRecDepth 100000 in
theorem doers_any {W0 w : World} {L : List Asn} (S : Sat W0 w L) :
    Calls Try.prog 60 #[] w fun e w' => ∃ q1 q2 q3 q4 q5 q6 q7 q8, e = .returned (.agg (dv q1 q2 q3 q4 q5 q6 q7 q8).toArray) ∧ Sat W0 w' (capt q8 (.func 72) :: capt q7 (.func 71) :: capt q6 (.func 70) :: capt q5 (.func 69) :: capt q4 (.func 68) :: capt q3 (.func 67) :: capt q2 (.func 66) :: capt q1 (.func 65) :: L) := by
  have S1 : Sat W0 (w.alloc (.cells #[.nilFunc, .nilFunc, .nilFunc, .nilFunc, .nilFunc, .nilFunc, .nilFunc, .nilFunc, .nilFunc, .nilFunc, .nilFunc, .nilFunc, .nilFunc, .nilFunc, .nilFunc, .nilFunc, .nilFunc, .nilFunc, .nilFunc, .nilFunc, .nilFunc, .nilFunc, .nilFunc] 122)) (blk w.heap.size dz 122 :: L) := S.alloc dz _
  go_enter Try.func60, Try.ntmps60
  go_wp2_with (first
    | (refine wpList_store_sat (news := dv q1 q2 q3 q4 q5 q6 q7 q8) (n := 23) rfl 122 _ _ rfl (S9.sel [8]) rfl rfl rfl (by decide) Try.sizeD (dv_one q1 q2 q3 q4 q5 q6 q7 q8) ?_; intro w9 S10)
    | (go_at_call 64; refine (vtwo_any S8 (.func 72)).mono ?_; rintro e w8 ⟨q8, rfl, S9⟩)
    | (go_at_call 64; refine (vtwo_any S7 (.func 71)).mono ?_; rintro e w7 ⟨q7, rfl, S8⟩)
    | (go_at_call 64; refine (vtwo_any S6 (.func 70)).mono ?_; rintro e w6 ⟨q6, rfl, S7⟩)
    | (go_at_call 64; refine (vtwo_any S5 (.func 69)).mono ?_; rintro e w5 ⟨q5, rfl, S6⟩)
    | (go_at_call 64; refine (vtwo_any S4 (.func 68)).mono ?_; rintro e w4 ⟨q4, rfl, S5⟩)
    | (go_at_call 64; refine (vtwo_any S3 (.func 67)).mono ?_; rintro e w3 ⟨q3, rfl, S4⟩)
    | (go_at_call 64; refine (vtwo_any S2 (.func 66)).mono ?_; rintro e w2 ⟨q2, rfl, S3⟩)
    | (go_at_call 64; refine (vtwo_any S1 (.func 65)).mono ?_; rintro e w1 ⟨q1, rfl, S2⟩))
  have S11 : Sat W0 w9 (blk w.heap.size (dv q1 q2 q3 q4 q5 q6 q7 q8) 122 :: capt q8 (.func 72) :: capt q7 (.func 71) :: capt q6 (.func 70) :: capt q5 (.func 69) :: capt q4 (.func 68) :: capt q3 (.func 67) :: capt q2 (.func 66) :: capt q1 (.func 65) :: L) := S10
  refine bodyPost_ret (results_cell_sat rfl _ S11 rfl Try.underlying122 rfl Try.sizeD) rfl ⟨q1, q2, q3, q4, q5, q6, q7, q8, rfl, S11.tail⟩
end Go.Proofs.Ytjdeeloemhjbhaa
