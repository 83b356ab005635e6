/-
  The law OctetOfNothing, walked.
-/
import Derived.Test.YtbkieoblhacngaaOctN
import Derived.Test.YtbkieoblhacngaaFld
import Derived.Test.YtbkieoblhacngaaRef1S
import Derived.Test.YtbkieoblhacngaaHashEq
import Derived.Deep.QuietTactic
namespace Go.Proofs.Ytbkieoblhacngaa
open Go.RowKit Go.Sep Go.Oct

theorem Try.sizeF : (Try.prog.info? 44).map (·.size) = some 35 := by kernel_rfl

set_option maxRecDepth 100000 in
theorem OctetOfNothing_walk {w : World} {f : Fd} (hf : Good w f) :
    Calls Try.prog 7 #[.agg (fcells f).toArray] w fun e w' => e = .returned (.bool true) ∧ Below w.heap.size w w' := by
  have hl35 := fcells_length hf
  have S0 : Sat w (w.alloc (.cells (fcells f).toArray 44)) (blk w.heap.size (fcells f) 44 :: []) := (Sat.start w).alloc (fcells f) _
  have k1 : (fcells f)[1]? = some (.int .i64 f.n) := rfl
  have k2 : (fcells f)[2]? = some (.slice f.ao f.len f.cap) := rfl
  have k3 : ((fcells f).drop 3).take 32 = bv f.h := by
    show (bv f.h).take 32 = _
    rw [List.take_of_length_le (by simp [bv, hf.h])]
  have hone : ∀ u ∈ fcells f, u.oneCell' = true := by
    intro u hu
    simp only [fcells, List.mem_cons] at hu
    rcases hu with rfl | rfl | rfl | hu
    · rfl
    · rfl
    · rfl
    · exact bv_one _ u hu
  generalize hcs : fcells f = cs at S0 hl35 k1 k2 k3 hone ⊢
  have HCS := Lib.hid hcs
  clear hcs
  have c1 := (S0.cell 0 rfl 1).trans k1
  have c2 := (S0.cell 0 rfl 2).trans k2
  have hfold := fun z h => fold_set cs z h
  have S1 : Sat w ((w.alloc (.cells cs.toArray 44)).alloc (.cells cs.toArray 44)) (blk (w.heap.size + 1) cs 44 :: blk w.heap.size cs 44 :: []) := by
    have h := S0.alloc cs 44
    simp only [World.size_alloc] at h
    exact h
  have hR : Rd ((w.alloc (.cells cs.toArray 44)).alloc (.cells cs.toArray 44)) (some ⟨w.heap.size + 1, 0, none⟩) (fvs [f]) := by
    rw [show fvs [f] = cs from by rw [← HCS.out]; simp [fvs]]
    have h := Rd.lit (heap_alloc_new (w.alloc (.cells cs.toArray 44)) (.cells cs.toArray 44))
    simp only [World.size_alloc] at h
    exact h
  have hg : ∀ g ∈ [f], Good ((w.alloc (.cells cs.toArray 44)).alloc (.cells cs.toArray 44)) g := by
    intro g hg
    simp only [List.mem_singleton] at hg
    subst hg
    exact hf.below S1.below
  have hq := fun w => eql_zero w
  have hgd := Try.noGuardH
  have S2 := S1.sel [1]
  cases hh : decide (3000 < hv 0 [f]) with
  | true =>
    have HH := Lib.hid hh
    clear hh
    go_enter Try.func7, Try.ntmps7
    go_wp2_with (first
      | (refine wpList_load_part rfl 44 _ rfl (n := 35) rfl (S0.part 0 35) (by simp [hl35]) Try.underlying44 rfl Try.sizeF ?_; rw [List.drop_zero, List.take_of_length_le (by omega)])
      | (go_at_call 21; (try rw [hfold _ (by simp [hl35])]); refine (heavy_any (m := 1) hR rfl hg (by decide)).mono ?_; rintro e w2 ⟨rfl, rfl⟩; rw [HH.out]))
    go_ret
    exact ⟨rfl, S2.below⟩
  | false =>
    have HH := Lib.hid hh
    clear hh
    go_enter Try.func7, Try.ntmps7
    go_wp2_with (first
      | (refine wpList_load_part rfl 44 _ rfl (n := 35) rfl (S0.part 0 35) (by simp [hl35]) Try.underlying44 rfl Try.sizeF ?_; rw [List.drop_zero, List.take_of_length_le (by omega)])
      | (go_at_call 21; (try rw [hfold _ (by simp [hl35])]); refine (heavy_any (m := 1) hR rfl hg (by decide)).mono ?_; rintro e w2 ⟨rfl, rfl⟩; rw [HH.out])
      | (go_at_call 30; refine (wByte_none S2 1).mono ?_; rintro e w3 ⟨rfl, S3⟩)
      | (go_at_call 31; refine (wTwo_none S3 1 (by omega) (by omega)).mono ?_; rintro e w4 ⟨rfl, S4⟩)
      | (go_at_call 32; refine (wFour_none S4 1 (by omega) (by omega)).mono ?_; rintro e w5 ⟨rfl, S5⟩; have c1 := (S5.cell 0 rfl 1).trans k1)
      | (go_at_call 14; refine (wNum_none S5 f.n hf.n.1 hf.n.2).mono ?_; rintro e w6 ⟨rfl, S6⟩; have c2 := (S6.cell 0 rfl 2).trans k2)
      | (go_at_call 22; refine (wBytes_none S6 _ _ _ hf.reach).mono ?_; rintro e w7 ⟨rfl, S7⟩)
      | (refine wpList_load_part rfl 42 _ rfl (n := 32) rfl (S7.part 3 32) (by simp [hl35]) Try.underlying42 rfl Try.sizeH ?_; rw [k3])
      | (go_at_call 33; refine (wHash_none S7 _).mono ?_; rintro e w8 ⟨rfl, S8⟩)
      | (go_at_call 26; refine (rByte_none _).mono ?_; rintro e w9 ⟨rfl, rfl⟩)
      | (go_at_call 27; refine (rTwo_none _).mono ?_; rintro e w9 ⟨rfl, rfl⟩)
      | (go_at_call 28; refine (rFour_none _).mono ?_; rintro e w9 ⟨rfl, rfl⟩)
      | (go_at_call 19; refine (rNum_none _).mono ?_; rintro e w9 ⟨rfl, rfl⟩)
      | (go_at_call 15; refine (out_none _).mono ?_; rintro e w9 ⟨rfl, rfl⟩)
      | (go_at_call 23; refine (rBytes_none _).mono ?_; rintro e w9 ⟨rfl, rfl⟩)
      | (go_at_call 29; refine (rHash_none S8).mono ?_; rintro e w10 ⟨rfl, S10⟩)
      | (go_at_call 20; refine (left_none _).mono ?_; rintro e w9 ⟨rfl, rfl⟩)
      | (go_at_call 24; refine (end_none _).mono ?_; rintro e w9 ⟨rfl, rfl⟩)
      | (go_at_call 13; refine (known_any S10).mono ?_; rintro e w11 ⟨rfl, S11⟩))
    go_ret
    exact ⟨rfl, S11.below⟩
end Go.Proofs.Ytbkieoblhacngaa
