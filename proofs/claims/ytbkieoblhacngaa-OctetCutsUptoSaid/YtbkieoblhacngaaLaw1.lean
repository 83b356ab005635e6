/-
  What a slice that came in tells the walk.
-/
import Derived.Test.YtbkieoblhacngaaRef1S
import Derived.Test.YtbkieoblhacngaaLaw0
namespace Go.Proofs.Ytbkieoblhacngaa
open Go.RowKit Go.Sep Go.Oct

theorem bytes_of_wf {bs : List Int} (h : ∀ x ∈ bs, (Lit.int .u8 x).wf = true) : Bytes bs := fun x hx => by
  have := h x hx
  simp [Lit.wf, IntKind.min, IntKind.max, IntKind.signed, IntKind.bits] at this
  omega

theorem i64_and30 (n : Int) : bits .and .i64 n 1073741823 = n % 1073741824 := by
  have hm : (BitVec.ofInt 64 1073741823).toNat = 2 ^ 30 - 1 := by decide +kernel
  have key : (BitVec.ofInt 64 n &&& BitVec.ofInt 64 1073741823).toNat = (n % ((2 ^ 64 : Nat) : Int)).toNat % 2 ^ 30 := by
    rw [BitVec.toNat_and, BitVec.toNat_ofInt, hm, Nat.and_two_pow_sub_one_eq_mod]
  show IntKind.i64.wrap ((BitVec.ofInt 64 n &&& BitVec.ofInt 64 1073741823).toNat : Nat) = n % 1073741824
  rw [key, IntKind.wrap_i64]
  omega
end Go.Proofs.Ytbkieoblhacngaa
