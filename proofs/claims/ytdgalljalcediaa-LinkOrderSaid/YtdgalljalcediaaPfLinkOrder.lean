/-
  The law LinkOrder of the given program answers true, and its arguments read behind the call as they read before: for every input, without a condition.
  The frame is after the kit's proof-skeleton.
-/
import Derived.Test.YtdgalljalcediaaLiLwOrderJ
import Derived.Test.YtdgalljalcediaaArgs
import Derived.Test.YtdgalljalcediaaRows
import Derived.WalkKit
import Derived.ProofKit
import Derived.OpenShut
import Derived.ShutString
import Derived.ChangeOld
import Derived.Below
import Derived.SizedLaws
namespace Go.Proofs.Ytdgalljalcediaa.linkOrder
open Go.ChangeShapes Go.WideShapes Go.ChangeAt Go.RowKit Go.Sep
set_option linter.unusedVariables false

theorem own : ownKnob Try.prog.godebug = none := by kernel_rfl
theorem laidOut : laidOutB Try.prog = true := by kernel_rfl
theorem of0 : (Kd.sl (Kd.sl (Kd.int .u8))).Of Try.prog 25 := (Kd.of_sl (by kernel_rfl) Try.underlying25 (Kd.of_sl (by kernel_rfl) Try.underlying29 (Kd.of_int (by kernel_rfl) Try.underlying5) (by decide) (of_decide_eq_true (by kernel_rfl))) (by decide) (of_decide_eq_true (by kernel_rfl)))
theorem of1 : (Kd.sl (Kd.sl (Kd.int .u8))).Of Try.prog 25 := (Kd.of_sl (by kernel_rfl) Try.underlying25 (Kd.of_sl (by kernel_rfl) Try.underlying29 (Kd.of_int (by kernel_rfl) Try.underlying5) (by decide) (of_decide_eq_true (by kernel_rfl))) (by decide) (of_decide_eq_true (by kernel_rfl)))
theorem of2 : (Kd.sl (Kd.int .i64)).Of Try.prog 44 := (Kd.of_sl (by kernel_rfl) Try.underlying44 (Kd.of_int (by kernel_rfl) Try.underlying3) (by decide) (of_decide_eq_true (by kernel_rfl)))

theorem walk (w : World) (s0 : Sl (Sl Int)) (r0 : (Kd.sl (Kd.sl (Kd.int .u8))).R w [.slice s0.ao s0.len s0.cap] s0) (s1 : Sl (Sl Int)) (r1 : (Kd.sl (Kd.sl (Kd.int .u8))).R w [.slice s1.ao s1.len s1.cap] s1) (s2 : Sl Int) (r2 : (Kd.sl (Kd.int .i64)).R w [.slice s2.ao s2.len s2.cap] s2) :
    Calls Try.prog 7 #[.slice s0.ao s0.len s0.cap, .slice s1.ao s1.len s1.cap, .slice s2.ao s2.len s2.cap] w fun e w' => e = .returned (.bool true) ∧ Below w.heap.size w w' := by
  obtain ⟨h1, h2, h4, _, _, h3⟩ := nums_rd r2
  exact LinkOrder_walk (rows_rd r0) (rows_rd r1) h1 h2 h3 h4

set_option maxRecDepth 100000 in
theorem lifted (os : Os) (started : os.Started) (H : Type) (enc : TypeId × Value → H) :
    ReturnsInHanded {} Try.checked os 7 .any (Rows.linkOrderSpec.pre6 enc Try.prog Try.f7 Rows.linkOrderRow.domain false) (Rows.linkOrderSpec.post enc Try.prog Try.f7 false true false false) := by
  refine returnsInHanded_of_change_sized (C := Try.checked) own started (by kernel_rfl) Try.func7
    (ChangeSpec.witness6 (enc := enc) (C := Try.checked) false ⟨#[], #[.slice none 0 0, .slice none 0 0, .slice none 0 0], []⟩ 8 (by kernel_rfl) (by kernel_rfl) (by kernel_rfl) (by kernel_rfl)) ?_
  intro W base args ds gs before hval0 hW hcnd hsz _
  have hval : ∀ (j : Nat) t v, Try.f7.params[j]? = some t → args[j]? = some v → Value.okWide Try.prog W .any base t v := hval0
  have hW' := hW
  obtain ⟨p, q, hA0, hV, rfl, hfz, hnd⟩ := hW
  have hA : DataW.TrodAll enc Try.prog W 0 (fun _ => true) true Try.f7.params.toList args.toList ds p := hA0
  rw [Try.params7] at hA hval hsz
  obtain ⟨v0, vs0, d0, ds0, p0, q0, hargs, rfl, rfl, h0, r0'⟩ := trodAll_cons hA
  obtain ⟨v1, vs1, d1, ds1, p1, q1, rfl, rfl, rfl, h1, r1'⟩ := trodAll_cons r0'
  obtain ⟨v2, vs2, d2, ds2, p2, q2, rfl, rfl, rfl, h2, r2'⟩ := trodAll_cons r1'
  obtain ⟨rfl, rfl, rfl⟩ := trodAll_nil r2'
  obtain rfl : args = #[v0, v1, v2] := by cases args; simp_all
  obtain ⟨rfl, rfl⟩ := trodVars_none hV
  obtain ⟨ao0, len0, cap0, rfl⟩ := okWide_slice Try.underlying25 (hval 0 25 v0 rfl rfl)
  have k0 := h0
  have lt0 : ∀ x ∈ p0, x.block < W.heap.size := by obtain ⟨m, hm⟩ := k0; exact DataW.trod_lt m _ _ _ hm
  obtain ⟨fu0, hf0⟩ := h0
  obtain ⟨s0, r0⟩ := (of0).2 _ _ _ _ _ _ _ _ _ hf0 (fun n hn => of_decide_eq_true (List.all_eq_true.1 hsz n (DataW.weights_mem_each (j := 0) rfl rfl n hn)))
  obtain ⟨hs0, r0'⟩ := r0
  simp only [Value.cells, List.cons.injEq, Value.slice.injEq, and_true] at hs0
  obtain ⟨rfl, rfl, rfl⟩ := hs0
  have r0 : (Kd.sl (Kd.sl (Kd.int .u8))).R W [.slice s0.ao s0.len s0.cap] s0 := ⟨rfl, r0'⟩
  obtain ⟨ao1, len1, cap1, rfl⟩ := okWide_slice Try.underlying25 (hval 1 25 v1 rfl rfl)
  have k1 := h1
  have lt1 : ∀ x ∈ p1, x.block < W.heap.size := by obtain ⟨m, hm⟩ := k1; exact DataW.trod_lt m _ _ _ hm
  obtain ⟨fu1, hf1⟩ := h1
  obtain ⟨s1, r1⟩ := (of1).2 _ _ _ _ _ _ _ _ _ hf1 (fun n hn => of_decide_eq_true (List.all_eq_true.1 hsz n (DataW.weights_mem_each (j := 1) rfl rfl n hn)))
  obtain ⟨hs1, r1'⟩ := r1
  simp only [Value.cells, List.cons.injEq, Value.slice.injEq, and_true] at hs1
  obtain ⟨rfl, rfl, rfl⟩ := hs1
  have r1 : (Kd.sl (Kd.sl (Kd.int .u8))).R W [.slice s1.ao s1.len s1.cap] s1 := ⟨rfl, r1'⟩
  obtain ⟨ao2, len2, cap2, rfl⟩ := okWide_slice Try.underlying44 (hval 2 44 v2 rfl rfl)
  have k2 := h2
  have lt2 : ∀ x ∈ p2, x.block < W.heap.size := by obtain ⟨m, hm⟩ := k2; exact DataW.trod_lt m _ _ _ hm
  obtain ⟨fu2, hf2⟩ := h2
  obtain ⟨s2, r2⟩ := (of2).2 _ _ _ _ _ _ _ _ _ hf2 (fun n hn => of_decide_eq_true (List.all_eq_true.1 hsz n (DataW.weights_mem_each (j := 2) rfl rfl n hn)))
  obtain ⟨hs2, r2'⟩ := r2
  simp only [Value.cells, List.cons.injEq, Value.slice.injEq, and_true] at hs2
  obtain ⟨rfl, rfl, rfl⟩ := hs2
  have r2 : (Kd.sl (Kd.int .i64)).R W [.slice s2.ao s2.len s2.cap] s2 := ⟨rfl, r2'⟩
  clear hA0 hval0
  refine (walk W s0 r0 s1 r1 s2 r2).mono fun e W' ⟨he, bel⟩ => ?_
  subst he
  exact ⟨_, rfl, _, _, _, [], _, [], hW', trodAll_mk1 (shut_bool Try.underlying4 _), (trodAll_cons_mk (Below.trod laidOut (by kernel_rfl) (of_decide_eq_true (by kernel_rfl)) k0 bel lt0) (trodAll_cons_mk (Below.trod laidOut (by kernel_rfl) (of_decide_eq_true (by kernel_rfl)) k1 bel lt1) (trodAll_cons_mk (Below.trod laidOut (by kernel_rfl) (of_decide_eq_true (by kernel_rfl)) k2 bel lt2) trodAll_mk0))), rfl, bel.frame _, fun h => by cases h⟩

theorem over : Rows.linkOrderRow.holds Try.pinned (OpenSpec.ofChange Rows.linkOrderSpec) :=
  OpenClaim.holds_of_wide 7 Try.f7 rfl rfl rfl rfl rfl rfl rfl ⟨rfl, rfl, rfl, rfl, rfl⟩ rfl rfl rfl rfl rfl (by kernel_rfl) Try.func7 (by kernel_rfl)
    (of_decide_eq_true (by kernel_rfl)) (by unfold Func.isWrapper; first | (rw [if_pos (by decide +kernel)]; kernel_rfl) | (rw [if_neg (by decide +kernel)]; exact ⟨rfl, rfl⟩))
    (fun os started H enc _ => lifted os started H enc)

theorem proved : Rows.LinkOrderSaid := over
#print axioms proved
end Go.Proofs.Ytdgalljalcediaa.linkOrder
