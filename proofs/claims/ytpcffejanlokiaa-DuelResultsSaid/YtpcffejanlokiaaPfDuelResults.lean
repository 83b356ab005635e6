/-
  The law DuelResults of the given program answers true, and its arguments read behind the call as they read before: for every input, without a condition.
  The frame is after the kit's proof-skeleton.
-/
import Derived.Test.YtpcffejanlokiaaDuLwResults
import Derived.Test.YtpcffejanlokiaaArgs
import Derived.Test.YtpcffejanlokiaaRows
import Derived.WalkKit
import Derived.ProofKit
import Derived.OpenShut
import Derived.ShutString
import Derived.ChangeOld
import Derived.Below
import Derived.SizedLaws
namespace Go.Proofs.Ytpcffejanlokiaa.duelResults
open Go.ChangeShapes Go.WideShapes Go.ChangeAt Go.RowKit Go.Sep
set_option linter.unusedVariables false

theorem own : ownKnob Try.prog.godebug = none := by kernel_rfl
theorem laidOut : laidOutB Try.prog = true := by kernel_rfl
theorem of0 : (Kd.pair (Kd.int .i64) (Kd.pair (Kd.arr 16 (Kd.int .i32)) (Kd.pair (Kd.int .u32) (Kd.pair Kd.bool (Kd.int .i64))))).Of Try.prog 31 := (Kd.of_struct Try.underlying31 (by kernel_rfl) (.more rfl (Kd.of_int (by kernel_rfl) Try.underlying3) (.more rfl (Kd.of_arr (by kernel_rfl) Try.underlying29 (Kd.of_int (by kernel_rfl) Try.underlying21)) (.more rfl (Kd.of_int (by kernel_rfl) Try.underlying25) (.more rfl (Kd.of_bool (by kernel_rfl) Try.underlying4) (.one rfl (Kd.of_int (by kernel_rfl) Try.underlying3)))))))
theorem of1 : (Kd.pair (Kd.sl (Kd.pair (Kd.int .i64) (Kd.int .i64))) (Kd.pair (Kd.int .i64) (Kd.int .i64))).Of Try.prog 24 := (Kd.of_struct Try.underlying24 (by kernel_rfl) (.more rfl (Kd.of_sl (by kernel_rfl) Try.underlying22 (Kd.of_struct Try.underlying68 (by kernel_rfl) (.more rfl (Kd.of_int (by kernel_rfl) Try.underlying3) (.one rfl (Kd.of_int (by kernel_rfl) Try.underlying3)))) (by decide) (of_decide_eq_true (by kernel_rfl))) (.more rfl (Kd.of_int (by kernel_rfl) Try.underlying3) (.one rfl (Kd.of_int (by kernel_rfl) Try.underlying3)))))

theorem walk (w : World) (c0 : List Value) (x0 : (Int × ((List Int) × (Int × (Bool × Int))))) (r0 : (Kd.pair (Kd.int .i64) (Kd.pair (Kd.arr 16 (Kd.int .i32)) (Kd.pair (Kd.int .u32) (Kd.pair Kd.bool (Kd.int .i64))))).R w c0 x0) (c1 : List Value) (x1 : ((Sl (Int × Int)) × (Int × Int))) (r1 : (Kd.pair (Kd.sl (Kd.pair (Kd.int .i64) (Kd.int .i64))) (Kd.pair (Kd.int .i64) (Kd.int .i64))).R w c1 x1) :
    Calls Try.prog 4 #[.agg c0.toArray, .agg c1.toArray] w fun e w' => e = .returned (.bool true) ∧ Below w.heap.size w w' := by
  obtain ⟨s, hs, rfl⟩ := state_rd r0
  obtain ⟨a, n, cp, code, cap, fuel, rfl, hR, hn, hnm⟩ := game_rd r1
  exact DuelResults_walk hs

set_option maxRecDepth 100000 in
theorem lifted (os : Os) (started : os.Started) (H : Type) (enc : TypeId × Value → H) :
    ReturnsInHanded {} Try.checked os 4 .any (Rows.duelResultsSpec.pre6 enc Try.prog Try.f4 Rows.duelResultsRow.domain false) (Rows.duelResultsSpec.post enc Try.prog Try.f4 false true false false) := by
  refine returnsInHanded_of_change_sized (C := Try.checked) own started (by kernel_rfl) Try.func4
    (ChangeSpec.witness6 (enc := enc) (C := Try.checked) false ⟨#[], #[.agg #[.int .i64 0, .int .i32 0, .int .i32 0, .int .i32 0, .int .i32 0, .int .i32 0, .int .i32 0, .int .i32 0, .int .i32 0, .int .i32 0, .int .i32 0, .int .i32 0, .int .i32 0, .int .i32 0, .int .i32 0, .int .i32 0, .int .i32 0, .int .u32 0, .bool false, .int .i64 0], .agg #[.slice none 0 0, .int .i64 0, .int .i64 0]], []⟩ 8 (by kernel_rfl) (by kernel_rfl) (by kernel_rfl) (by kernel_rfl)) ?_
  intro W base args ds gs before hval0 hW hcnd hsz _
  have hval : ∀ (j : Nat) t v, Try.f4.params[j]? = some t → args[j]? = some v → Value.okWide Try.prog W .any base t v := hval0
  have hW' := hW
  obtain ⟨p, q, hA0, hV, rfl, hfz, hnd⟩ := hW
  have hA : DataW.TrodAll enc Try.prog W 0 (fun _ => true) true Try.f4.params.toList args.toList ds p := hA0
  rw [Try.params4] at hA hval hsz
  obtain ⟨v0, vs0, d0, ds0, p0, q0, hargs, rfl, rfl, h0, r0'⟩ := trodAll_cons hA
  obtain ⟨v1, vs1, d1, ds1, p1, q1, rfl, rfl, rfl, h1, r1'⟩ := trodAll_cons r0'
  obtain ⟨rfl, rfl, rfl⟩ := trodAll_nil r1'
  obtain rfl : args = #[v0, v1] := by cases args; simp_all
  obtain ⟨rfl, rfl⟩ := trodVars_none hV
  obtain ⟨c0, rfl⟩ := okWide_agg Try.underlying31 (hval 0 31 v0 rfl rfl)
  have k0 := h0
  have lt0 : ∀ x ∈ p0, x.block < W.heap.size := by obtain ⟨m, hm⟩ := k0; exact DataW.trod_lt m _ _ _ hm
  obtain ⟨fu0, hf0⟩ := h0
  obtain ⟨x0, r0⟩ := (of0).2 _ _ _ _ _ _ _ _ _ hf0 (fun n hn => of_decide_eq_true (List.all_eq_true.1 hsz n (DataW.weights_mem_each (j := 0) rfl rfl n hn)))
  obtain ⟨c1, rfl⟩ := okWide_agg Try.underlying24 (hval 1 24 v1 rfl rfl)
  have k1 := h1
  have lt1 : ∀ x ∈ p1, x.block < W.heap.size := by obtain ⟨m, hm⟩ := k1; exact DataW.trod_lt m _ _ _ hm
  obtain ⟨fu1, hf1⟩ := h1
  obtain ⟨x1, r1⟩ := (of1).2 _ _ _ _ _ _ _ _ _ hf1 (fun n hn => of_decide_eq_true (List.all_eq_true.1 hsz n (DataW.weights_mem_each (j := 1) rfl rfl n hn)))
  clear hA0 hval0
  refine (walk W _ x0 r0 _ x1 r1).mono fun e W' ⟨he, bel⟩ => ?_
  subst he
  exact ⟨_, rfl, _, _, _, [], _, [], hW', trodAll_mk1 (shut_bool Try.underlying4 _), (trodAll_cons_mk (Below.trod laidOut (by kernel_rfl) (of_decide_eq_true (by kernel_rfl)) k0 bel lt0) (trodAll_cons_mk (Below.trod laidOut (by kernel_rfl) (of_decide_eq_true (by kernel_rfl)) k1 bel lt1) trodAll_mk0)), rfl, bel.frame _, fun h => by cases h⟩

theorem over : Rows.duelResultsRow.holds Try.pinned (OpenSpec.ofChange Rows.duelResultsSpec) :=
  OpenClaim.holds_of_wide 4 Try.f4 rfl rfl rfl rfl rfl rfl rfl ⟨rfl, rfl, rfl, rfl, rfl⟩ rfl rfl rfl rfl rfl (by kernel_rfl) Try.func4 (by kernel_rfl)
    (of_decide_eq_true (by kernel_rfl)) (by unfold Func.isWrapper; first | (rw [if_pos (by decide +kernel)]; kernel_rfl) | (rw [if_neg (by decide +kernel)]; exact ⟨rfl, rfl⟩))
    (fun os started H enc _ => lifted os started H enc)

theorem proved : Rows.DuelResultsSaid := over
#print axioms proved
end Go.Proofs.Ytpcffejanlokiaa.duelResults
