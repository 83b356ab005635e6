/-
  code: what each op is; whether a program is one.
-/
import Derived.Deep.QuietTactic
import Derived.BigQuiet
import Derived.Test.YtjdeeloemhjbhaaGreatQVm3

namespace Go.Proofs.YtjdeeloemhjbhaaGreat
open Go.RowKit Go.Sep Go.Vm

abbrev up (q : Nat) : Value := .func (.func 87) #[] #[.pointer (some ⟨q, 0, none⟩)]
def num1 (q : Nat) (n : Int) : Asn := blk q [.int .i64 n] 3

set_option maxRecDepth 100000 in
theorem upTo_any {W0 w : World} {L : List Asn} (S : Sat W0 w L) (n : Int) :
    Calls Tryz.prog 72 #[.int .i64 n] w fun e w' => ∃ q, e = .returned (up q) ∧ Sat W0 w' (num1 q n :: L) := by
  have hmf : ∀ (fn : Fn) (first cap : Array Value) (w : World), (Instr.makeFunc fn first cap).run Tryz.prog w = .ok (.func fn first cap) w := fun _ _ _ _ => rfl
  have S1 := S.alloc [.int .i64 n] 3
  go_enter Tryz.func72, Tryz.ntmps72
  go_wp2_with fail
  go_ret
  exact ⟨_, rfl, S1⟩

theorem ret_bool {a b : Bool} (h : a = b) : Ending.returned (.bool a) = .returned (.bool b) := by rw [h]

set_option maxRecDepth 100000 in
theorem upTo1_any (w : World) {q : Nat} {n : Int} (hc : w.cell? ⟨q, 0, none⟩ = some (.int .i64 n)) (arg many : Int) :
    Calls Tryz.prog 87 #[.int .i64 arg, .int .i64 many, .pointer (some ⟨q, 0, none⟩)] w fun e w' => e = .returned (.bool (decide (0 ≤ arg ∧ arg ≤ n))) ∧ w = w' := by
  by_cases h0 : 0 ≤ arg
  · by_cases h1 : arg ≤ n
    all_goals
      go_enter Tryz.func87, Tryz.ntmps87
      go_wp2_with fail
      go_ret
      exact ⟨ret_bool (by simp [h0, h1]), rfl⟩
  · go_enter Tryz.func87, Tryz.ntmps87
    go_wp2_with fail
    go_ret
    exact ⟨ret_bool (by simp; omega), rfl⟩

set_option maxRecDepth 100000 in
theorem cnumber_any (w : World) (arg many : Int) :
    Calls Tryz.prog 73 #[.int .i64 arg, .int .i64 many] w fun e w' => e = .returned (.bool (decide (-2147483648 ≤ arg ∧ arg ≤ 2147483647))) ∧ w = w' := by
  by_cases h0 : -2147483648 ≤ arg
  · by_cases h1 : arg ≤ 2147483647
    all_goals
      go_enter Tryz.func73, Tryz.ntmps73
      go_wp2_with fail
      go_ret
      exact ⟨ret_bool (by simp [h0, h1]), rfl⟩
  · go_enter Tryz.func73, Tryz.ntmps73
    go_wp2_with fail
    go_ret
    exact ⟨ret_bool (by simp; omega), rfl⟩

set_option maxRecDepth 100000 in
theorem cplace_any (w : World) (arg many : Int) :
    Calls Tryz.prog 74 #[.int .i64 arg, .int .i64 many] w fun e w' => e = .returned (.bool (decide (0 ≤ arg ∧ arg ≤ many))) ∧ w = w' := by
  by_cases h0 : 0 ≤ arg
  · by_cases h1 : arg ≤ many
    all_goals
      go_enter Tryz.func74, Tryz.ntmps74
      go_wp2_with fail
      go_ret
      exact ⟨ret_bool (by simp [h0, h1]), rfl⟩
  · go_enter Tryz.func74, Tryz.ntmps74
    go_wp2_with fail
    go_ret
    exact ⟨ret_bool (by simp; omega), rfl⟩

set_option maxRecDepth 100000 in
theorem isOp_any (w : World) (op : Int) :
    Calls Tryz.prog 57 #[.int .i64 op] w fun e w' => e = .returned (.bool (decide (1 ≤ op ∧ op ≤ 22))) ∧ w = w' := by
  by_cases h0 : 1 ≤ op
  · by_cases h1 : op ≤ 22
    all_goals
      go_enter Tryz.func57, Tryz.ntmps57
      go_wp2_with fail
      go_ret
      exact ⟨ret_bool (by simp [h0, h1]), rfl⟩
  · go_enter Tryz.func57, Tryz.ntmps57
    go_wp2_with fail
    go_ret
    exact ⟨ret_bool (by simp; omega), rfl⟩

def tbl (q0 qa qb qc qd : Nat) : List Value := [.string ⟨#[]⟩, .bool false, .nilFunc, .string ⟨#[112, 117, 115, 104]⟩, .bool true, .func (.func 73) #[] #[], .string ⟨#[108, 111, 97, 100]⟩, .bool true, up qa, .string ⟨#[115, 116, 111, 114, 101]⟩, .bool true, up qb, .string ⟨#[97, 100, 100]⟩, .bool false, up q0, .string ⟨#[115, 117, 98]⟩, .bool false, up q0, .string ⟨#[109, 117, 108]⟩, .bool false, up q0, .string ⟨#[100, 105, 118]⟩, .bool false, up q0, .string ⟨#[109, 105, 110]⟩, .bool false, up q0, .string ⟨#[109, 97, 120]⟩, .bool false, up q0, .string ⟨#[108, 101, 115, 115]⟩, .bool false, up q0, .string ⟨#[115, 97, 109, 101]⟩, .bool false, up q0, .string ⟨#[110, 111, 116]⟩, .bool false, up q0, .string ⟨#[100, 117, 112]⟩, .bool false, up q0, .string ⟨#[115, 119, 97, 112]⟩, .bool false, up q0, .string ⟨#[100, 114, 111, 112]⟩, .bool false, up q0, .string ⟨#[105, 110]⟩, .bool true, up qc, .string ⟨#[102, 114, 97, 109, 101]⟩, .bool false, up q0, .string ⟨#[106, 117, 109, 112]⟩, .bool true, .func (.func 74) #[] #[], .string ⟨#[122, 101, 114, 111]⟩, .bool true, .func (.func 74) #[] #[], .string ⟨#[119, 105, 110]⟩, .bool true, up qd, .string ⟨#[114, 97, 110, 100]⟩, .bool false, up q0, .string ⟨#[104, 97, 108, 116]⟩, .bool false, up q0]
def tz : List Value := [.string ⟨#[]⟩, .bool false, .nilFunc, .string ⟨#[]⟩, .bool false, .nilFunc, .string ⟨#[]⟩, .bool false, .nilFunc, .string ⟨#[]⟩, .bool false, .nilFunc, .string ⟨#[]⟩, .bool false, .nilFunc, .string ⟨#[]⟩, .bool false, .nilFunc, .string ⟨#[]⟩, .bool false, .nilFunc, .string ⟨#[]⟩, .bool false, .nilFunc, .string ⟨#[]⟩, .bool false, .nilFunc, .string ⟨#[]⟩, .bool false, .nilFunc, .string ⟨#[]⟩, .bool false, .nilFunc, .string ⟨#[]⟩, .bool false, .nilFunc, .string ⟨#[]⟩, .bool false, .nilFunc, .string ⟨#[]⟩, .bool false, .nilFunc, .string ⟨#[]⟩, .bool false, .nilFunc, .string ⟨#[]⟩, .bool false, .nilFunc, .string ⟨#[]⟩, .bool false, .nilFunc, .string ⟨#[]⟩, .bool false, .nilFunc, .string ⟨#[]⟩, .bool false, .nilFunc, .string ⟨#[]⟩, .bool false, .nilFunc, .string ⟨#[]⟩, .bool false, .nilFunc, .string ⟨#[]⟩, .bool false, .nilFunc, .string ⟨#[]⟩, .bool false, .nilFunc]
theorem tbl_one (q0 qa qb qc qd : Nat) : ∀ u ∈ tbl q0 qa qb qc qd, u.oneCell' = true := by
  intro u hu
  simp only [tbl, List.mem_cons, List.not_mem_nil, or_false] at hu
  rcases hu with rfl | rfl | rfl | rfl | rfl | rfl | rfl | rfl | rfl | rfl | rfl | rfl | rfl | rfl | rfl | rfl | rfl | rfl | rfl | rfl | rfl | rfl | rfl | rfl | rfl | rfl | rfl | rfl | rfl | rfl | rfl | rfl | rfl | rfl | rfl | rfl | rfl | rfl | rfl | rfl | rfl | rfl | rfl | rfl | rfl | rfl | rfl | rfl | rfl | rfl | rfl | rfl | rfl | rfl | rfl | rfl | rfl | rfl | rfl | rfl | rfl | rfl | rfl | rfl | rfl | rfl | rfl | rfl | rfl <;> rfl
theorem Tryz.sizeT : (Tryz.prog.info? 120).map (·.size) = some 69 := by kernel_rfl

end Go.Proofs.YtjdeeloemhjbhaaGreat
