/-
  The law RollbackTwo of the given program answers true, and its arguments read behind the call as they read before: for every input, without a condition.
  The frame is after the kit's proof-skeleton.
-/
import Derived.Test.YtjdeeloemhjbhaaGreatQRbLwTwo
import Derived.Test.YtjdeeloemhjbhaaGreatArgs
import Derived.Test.YtjdeeloemhjbhaaGreatRows
import Derived.WalkKit
import Derived.ProofKit
import Derived.OpenShut
import Derived.ShutString
import Derived.ChangeOld
import Derived.Below
import Derived.SizedLaws
namespace Go.Proofs.YtjdeeloemhjbhaaGreat.rollbackTwo
open Go.ChangeShapes Go.WideShapes Go.ChangeAt Go.RowKit Go.Sep
set_option linter.unusedVariables false

theorem own : ownKnob Tryz.prog.godebug = none := by kernel_rfl
theorem laidOut : laidOutB Tryz.prog = true := by kernel_rfl
theorem of0 : (Kd.pair (Kd.sl (Kd.pair (Kd.int .i64) (Kd.int .i64))) (Kd.pair (Kd.int .i64) (Kd.int .i64))).Of Tryz.prog 24 := (Kd.of_struct Tryz.underlying24 (by kernel_rfl) (.more rfl (Kd.of_sl (by kernel_rfl) Tryz.underlying22 (Kd.of_struct Tryz.underlying95 (by kernel_rfl) (.more rfl (Kd.of_int (by kernel_rfl) Tryz.underlying3) (.one rfl (Kd.of_int (by kernel_rfl) Tryz.underlying3)))) (by decide) (of_decide_eq_true (by kernel_rfl))) (.more rfl (Kd.of_int (by kernel_rfl) Tryz.underlying3) (.one rfl (Kd.of_int (by kernel_rfl) Tryz.underlying3)))))
theorem of2 : (Kd.sl (Kd.int .u16)).Of Tryz.prog 26 := (Kd.of_sl (by kernel_rfl) Tryz.underlying26 (Kd.of_int (by kernel_rfl) Tryz.underlying38) (by decide) (of_decide_eq_true (by kernel_rfl)))
theorem of3 : (Kd.sl (Kd.int .u16)).Of Tryz.prog 26 := (Kd.of_sl (by kernel_rfl) Tryz.underlying26 (Kd.of_int (by kernel_rfl) Tryz.underlying38) (by decide) (of_decide_eq_true (by kernel_rfl)))
theorem of4 : (Kd.sl (Kd.int .i64)).Of Tryz.prog 27 := (Kd.of_sl (by kernel_rfl) Tryz.underlying27 (Kd.of_int (by kernel_rfl) Tryz.underlying3) (by decide) (of_decide_eq_true (by kernel_rfl)))

theorem walk (w : World) (c0 : List Value) (x0 : ((Sl (Int × Int)) × (Int × Int))) (r0 : (Kd.pair (Kd.sl (Kd.pair (Kd.int .i64) (Kd.int .i64))) (Kd.pair (Kd.int .i64) (Kd.int .i64))).R w c0 x0) (a1 : Int) (w1 : (Lit.int .u32 a1).wf = true) (s2 : Sl Int) (r2 : (Kd.sl (Kd.int .u16)).R w [.slice s2.ao s2.len s2.cap] s2) (s3 : Sl Int) (r3 : (Kd.sl (Kd.int .u16)).R w [.slice s3.ao s3.len s3.cap] s3) (s4 : Sl Int) (r4 : (Kd.sl (Kd.int .i64)).R w [.slice s4.ao s4.len s4.cap] s4) :
    Calls Tryz.prog 4 #[.agg c0.toArray, .int .u32 a1, .slice s2.ao s2.len s2.cap, .slice s3.ao s3.len s3.cap, .slice s4.ao s4.len s4.cap] w fun e w' => e = .returned (.bool true) ∧ Below w.heap.size w w' := by
  obtain ⟨a, n, cp, code, cap, fuel, rfl, hR, hn, hnm⟩ := game_rd r0
  have h1 : 0 ≤ a1 ∧ a1 ≤ 4294967295 := by simpa [Lit.wf, IntKind.min, IntKind.max, IntKind.signed, IntKind.bits] using w1
  exact RollbackTwo_walk hR hn hnm cap fuel a1 ⟨h1.1, by omega⟩ (u16s_rd r2) (u16s_rd r3) (i64s_rd r4)

set_option maxRecDepth 100000 in
theorem lifted (os : Os) (started : os.Started) (H : Type) (enc : TypeId × Value → H) :
    ReturnsInHanded {} Tryz.checked os 4 .any (Rows.rollbackTwoSpec.pre6 enc Tryz.prog Tryz.f4 Rows.rollbackTwoRow.domain false) (Rows.rollbackTwoSpec.post enc Tryz.prog Tryz.f4 false true false false) := by
  refine returnsInHanded_of_change_sized (C := Tryz.checked) own started (by kernel_rfl) Tryz.func4
    (ChangeSpec.witness6 (enc := enc) (C := Tryz.checked) false ⟨#[], #[.agg #[.slice none 0 0, .int .i64 0, .int .i64 0], .int .u32 0, .slice none 0 0, .slice none 0 0, .slice none 0 0], []⟩ 8 (by kernel_rfl) (by kernel_rfl) (by kernel_rfl) (by kernel_rfl)) ?_
  intro W base args ds gs before hval0 hW hcnd hsz _
  have hval : ∀ (j : Nat) t v, Tryz.f4.params[j]? = some t → args[j]? = some v → Value.okWide Tryz.prog W .any base t v := hval0
  have hW' := hW
  obtain ⟨p, q, hA0, hV, rfl, hfz, hnd⟩ := hW
  have hA : DataW.TrodAll enc Tryz.prog W 0 (fun _ => true) true Tryz.f4.params.toList args.toList ds p := hA0
  rw [Tryz.params4] at hA hval hsz
  obtain ⟨v0, vs0, d0, ds0, p0, q0, hargs, rfl, rfl, h0, r0'⟩ := trodAll_cons hA
  obtain ⟨v1, vs1, d1, ds1, p1, q1, rfl, rfl, rfl, h1, r1'⟩ := trodAll_cons r0'
  obtain ⟨v2, vs2, d2, ds2, p2, q2, rfl, rfl, rfl, h2, r2'⟩ := trodAll_cons r1'
  obtain ⟨v3, vs3, d3, ds3, p3, q3, rfl, rfl, rfl, h3, r3'⟩ := trodAll_cons r2'
  obtain ⟨v4, vs4, d4, ds4, p4, q4, rfl, rfl, rfl, h4, r4'⟩ := trodAll_cons r3'
  obtain ⟨rfl, rfl, rfl⟩ := trodAll_nil r4'
  obtain rfl : args = #[v0, v1, v2, v3, v4] := by cases args; simp_all
  obtain ⟨rfl, rfl⟩ := trodVars_none hV
  obtain ⟨c0, rfl⟩ := okWide_agg Tryz.underlying24 (hval 0 24 v0 rfl rfl)
  have k0 := h0
  have lt0 : ∀ x ∈ p0, x.block < W.heap.size := by obtain ⟨m, hm⟩ := k0; exact DataW.trod_lt m _ _ _ hm
  obtain ⟨fu0, hf0⟩ := h0
  obtain ⟨x0, r0⟩ := (of0).2 _ _ _ _ _ _ _ _ _ hf0 (fun n hn => of_decide_eq_true (List.all_eq_true.1 hsz n (DataW.weights_mem_each (j := 0) rfl rfl n hn)))
  obtain ⟨a1, rfl, rfl, rfl, w1⟩ := open_int Tryz.underlying25 (hval 1 25 v1 rfl rfl) h1
  obtain ⟨ao2, len2, cap2, rfl⟩ := okWide_slice Tryz.underlying26 (hval 2 26 v2 rfl rfl)
  have k2 := h2
  have lt2 : ∀ x ∈ p2, x.block < W.heap.size := by obtain ⟨m, hm⟩ := k2; exact DataW.trod_lt m _ _ _ hm
  obtain ⟨fu2, hf2⟩ := h2
  obtain ⟨s2, r2⟩ := (of2).2 _ _ _ _ _ _ _ _ _ hf2 (fun n hn => of_decide_eq_true (List.all_eq_true.1 hsz n (DataW.weights_mem_each (j := 2) rfl rfl n hn)))
  obtain ⟨hs2, r2'⟩ := r2
  simp only [Value.cells, List.cons.injEq, Value.slice.injEq, and_true] at hs2
  obtain ⟨rfl, rfl, rfl⟩ := hs2
  have r2 : (Kd.sl (Kd.int .u16)).R W [.slice s2.ao s2.len s2.cap] s2 := ⟨rfl, r2'⟩
  obtain ⟨ao3, len3, cap3, rfl⟩ := okWide_slice Tryz.underlying26 (hval 3 26 v3 rfl rfl)
  have k3 := h3
  have lt3 : ∀ x ∈ p3, x.block < W.heap.size := by obtain ⟨m, hm⟩ := k3; exact DataW.trod_lt m _ _ _ hm
  obtain ⟨fu3, hf3⟩ := h3
  obtain ⟨s3, r3⟩ := (of3).2 _ _ _ _ _ _ _ _ _ hf3 (fun n hn => of_decide_eq_true (List.all_eq_true.1 hsz n (DataW.weights_mem_each (j := 3) rfl rfl n hn)))
  obtain ⟨hs3, r3'⟩ := r3
  simp only [Value.cells, List.cons.injEq, Value.slice.injEq, and_true] at hs3
  obtain ⟨rfl, rfl, rfl⟩ := hs3
  have r3 : (Kd.sl (Kd.int .u16)).R W [.slice s3.ao s3.len s3.cap] s3 := ⟨rfl, r3'⟩
  obtain ⟨ao4, len4, cap4, rfl⟩ := okWide_slice Tryz.underlying27 (hval 4 27 v4 rfl rfl)
  have k4 := h4
  have lt4 : ∀ x ∈ p4, x.block < W.heap.size := by obtain ⟨m, hm⟩ := k4; exact DataW.trod_lt m _ _ _ hm
  obtain ⟨fu4, hf4⟩ := h4
  obtain ⟨s4, r4⟩ := (of4).2 _ _ _ _ _ _ _ _ _ hf4 (fun n hn => of_decide_eq_true (List.all_eq_true.1 hsz n (DataW.weights_mem_each (j := 4) rfl rfl n hn)))
  obtain ⟨hs4, r4'⟩ := r4
  simp only [Value.cells, List.cons.injEq, Value.slice.injEq, and_true] at hs4
  obtain ⟨rfl, rfl, rfl⟩ := hs4
  have r4 : (Kd.sl (Kd.int .i64)).R W [.slice s4.ao s4.len s4.cap] s4 := ⟨rfl, r4'⟩
  clear hA0 hval0
  refine (walk W _ x0 r0 a1 w1 s2 r2 s3 r3 s4 r4).mono fun e W' ⟨he, bel⟩ => ?_
  subst he
  exact ⟨_, rfl, _, _, _, [], _, [], hW', trodAll_mk1 (shut_bool Tryz.underlying4 _), (trodAll_cons_mk (Below.trod laidOut (by kernel_rfl) (of_decide_eq_true (by kernel_rfl)) k0 bel lt0) (trodAll_cons_mk (shut_int Tryz.underlying25 w1) (trodAll_cons_mk (Below.trod laidOut (by kernel_rfl) (of_decide_eq_true (by kernel_rfl)) k2 bel lt2) (trodAll_cons_mk (Below.trod laidOut (by kernel_rfl) (of_decide_eq_true (by kernel_rfl)) k3 bel lt3) (trodAll_cons_mk (Below.trod laidOut (by kernel_rfl) (of_decide_eq_true (by kernel_rfl)) k4 bel lt4) trodAll_mk0))))), rfl, bel.frame _, fun h => by cases h⟩

theorem over : Rows.rollbackTwoRow.holds Tryz.pinned (OpenSpec.ofChange Rows.rollbackTwoSpec) :=
  OpenClaim.holds_of_wide 4 Tryz.f4 rfl rfl rfl rfl rfl rfl rfl ⟨rfl, rfl, rfl, rfl, rfl⟩ rfl rfl rfl rfl rfl (by kernel_rfl) Tryz.func4 (by kernel_rfl)
    (of_decide_eq_true (by kernel_rfl)) (by unfold Func.isWrapper; first | (rw [if_pos (by decide +kernel)]; kernel_rfl) | (rw [if_neg (by decide +kernel)]; exact ⟨rfl, rfl⟩))
    (fun os started H enc _ => lifted os started H enc)

theorem proved : Rows.RollbackTwoSaid := over
#print axioms proved
end Go.Proofs.YtjdeeloemhjbhaaGreat.rollbackTwo
