/-
  'a[i]' of an array by value, i in range.
-/
import Derived.ChangeKeysEq
import Derived.Test.YtjdeeloemhjbhaaGreatQSeg

namespace Go.Sep
open Go.RowKit

theorem run_index_array {P : Program} (w : World) {t e : TypeId} {n : Nat} {cs : Array Value} {i : Nat} {v : Value} (hu : P.underlying t = some (.array n e)) (hi : i < n) {inf : TypeInfo} (hf : P.info? e = some inf) (h1 : P.cellsOf e = 1) (he : P.plainKey e = true) (hv : cs[i]? = some v) :
    (Instr.index t (.agg cs) (.int .i64 (i : Int))).run P w = .ok v w := by
  have hp : (part e cs i).run P w = .ok v w := run_part_plain w he hv
  have e1 : (Instr.index t (.agg cs) (.int .i64 (i : Int))).run P w = ((sizeOf e).run P w).andThen fun a w' => (part e cs (i * a)).run P w' := by
    simp [Instr.index, run_underlying hu, asIntOf, hi, Sem.run_bind]
  rw [e1, run_sizeOf w hf, h1]
  simp only [Result.andThen_ok, Nat.mul_one, hp]
end Go.Sep
