/-
  The law RollbackOrder, walked (printed by wip/tools/gen/gorder14.py).
-/
import Derived.Test.YtjdeeloemhjbhaaGreatQRbOr
import Derived.Test.YtjdeeloemhjbhaaGreatQLaw0

namespace Go.Proofs.YtjdeeloemhjbhaaGreat
open Go.RowKit Go.Sep Go.Oct Go.Vm Go.Inp
set_option linter.unusedSimpArgs false

def rng (k : Nat) : List Int := (List.range k).map fun (j : Nat) => (j : Int)
theorem rng_succ (k : Nat) : rng (k + 1) = rng k ++ [(k : Int)] := by unfold rng; rw [List.range_succ, List.map_append]; rfl
/-- what lies in memory in the round -/
def OrM (ga gb gp : Nat) (game : List Value) (J : SK) (sa sb : PS) (ca : Nat) (la : Option Addr) (ln lc : Nat) (left : List Int) : List Asn := [lis la ln lc left, SS ga J sa ca, SS gb J sb ca, blk gp game 24]
set_option maxRecDepth 100000 in
set_option maxHeartbeats 12800000 in
theorem RollbackOrder_walk {w : World} {a : Option Addr} {n c : Nat} {code : List (Int × Int)} (hR : Rd w a (insv code)) (hn : code.length = n) (hnm : n ≤ maxLen) (cap fuel : Int) (seed : Int) (hsd : 0 ≤ seed ∧ seed < 4294967296)
    {ma : Option Addr} {mn mc : Nat} {mine : List Int} (hM : U16R w ma mn mine) {ha : Option Addr} {hl hc : Nat} {his : List Int} (hH : U16R w ha hl his) {pa : Option Addr} {pn pc : Nat} {picks : List Int} (hP : I64R w pa pn picks) :
    Calls Tryz.prog 6 #[.agg #[.slice a n c, .int .i64 cap, .int .i64 fuel], .int .u32 seed, .slice ma mn mc, .slice ha hl hc, .slice pa pn pc] w fun e w' => e = .returned (.bool true) ∧ Below w.heap.size w w' := by
  have S0 := Sat.start w
  have S1 := S0.alloc [.slice a n c, .int .i64 cap, .int .i64 fuel] 24
  have HRD : Hid (∀ (M : List Asn) (w' : World), Sat w w' M → Rd w' a (insv code)) := fun M w' h => hR.below h.below
  have HN := Lib.hid hn
  have HM := Lib.hid hM
  have HH := Lib.hid hH
  have HP := Lib.hid hP
  have hmt := hM.top
  have hht := hH.top
  have hpt := hP.top
  clear hR hn hM hH hP
  cases hsl : slowP n fuel with
  | true =>
    go_enter Tryz.func6, Tryz.ntmps6
    go_wp2_with (first
      | (refine wpList_load_part rfl 24 _ rfl (n := 3) rfl (Sat.whole S1 3) rfl Tryz.underlying24 rfl Tryz.sizeG ?_)
      | (go_at_call 7; refine (slow_any S1 a n c cap fuel).mono ?_; rw [hsl]; rintro e w2 ⟨rfl, S2⟩)
      | (go_at_call 9; refine (lknown_any S2).mono ?_; rintro e w5 ⟨rfl, S5⟩))
    go_ret
    exact ⟨rfl, S5.below⟩
  | false =>
    obtain ⟨e0, he0⟩ : ∃ e0, checkP code cap fuel = e0 := ⟨_, rfl⟩
    have HC := Lib.hid (fun w' M (S : Sat w w' M) => r10check_any S (c := c) (fun w' h => HRD.out _ _ h) HN.out hnm cap fuel)
    rw [he0] at HC
    by_cases hk : e0 = 0
    rotate_left
    · have hne : (e0 != 0) = true := by simpa using hk
      go_enter Tryz.func6, Tryz.ntmps6
      go_wp2_with (first
        | (go_at_call 7; refine (slow_any S1 a n c cap fuel).mono ?_; rw [hsl]; rintro e w2 ⟨rfl, S2⟩)
        | (go_at_call 8; refine (HC.out _ _ S2).mono ?_; rintro e w3 ⟨rfl, S3⟩; have c1 : w3.cell? ⟨w.heap.size, 1, none⟩ = some (.int .i64 cap) := S3.cell 0 rfl 1)
        | (refine wpList_load_guard (by rfl) 24 _ rfl (n := 3) rfl (Sat.whole S2 3) rfl Tryz.underlying24 rfl Tryz.sizeG ?_)
        | (refine wpList_load_part rfl 24 _ rfl (n := 3) rfl (Sat.whole S1 3) rfl Tryz.underlying24 rfl Tryz.sizeG ?_)
        | (go_at_call 9; refine (lknown_any S3).mono ?_; rintro e w5 ⟨rfl, S5⟩))
      go_ret
      exact ⟨rfl, S5.below⟩
    rw [hk] at he0 HC
    clear hk
    by_cases hm8 : 8 < mn
    · have d1 : decide ((8 : Int) < (mn : Int)) = true := decide_eq_true (by omega)
      have d1' : decide (8 < mn) = true := decide_eq_true hm8
      go_enter Tryz.func6, Tryz.ntmps6
      go_wp2_with (first
        | (go_at_call 7; refine (slow_any S1 a n c cap fuel).mono ?_; rw [hsl]; rintro e w2 ⟨rfl, S2⟩)
        | (go_at_call 8; refine (HC.out _ _ S2).mono ?_; rintro e w3 ⟨rfl, S3⟩; have c1 : w3.cell? ⟨w.heap.size, 1, none⟩ = some (.int .i64 cap) := S3.cell 0 rfl 1)
        | (refine wpList_load_guard (by rfl) 24 _ rfl (n := 3) rfl (Sat.whole S2 3) rfl Tryz.underlying24 rfl Tryz.sizeG ?_)
        | (refine wpList_load_part rfl 24 _ rfl (n := 3) rfl (Sat.whole S1 3) rfl Tryz.underlying24 rfl Tryz.sizeG ?_)
        | (go_at_call 9; refine (lknown_any S3).mono ?_; rintro e w5 ⟨rfl, S5⟩))
      go_ret
      exact ⟨rfl, S5.below⟩
    have d1 : decide ((8 : Int) < (mn : Int)) = false := decide_eq_false (by omega)
    have d1' : decide (8 < mn) = false := decide_eq_false hm8
    by_cases hh12 : 12 < hl
    · have d2 : decide ((12 : Int) < (hl : Int)) = true := decide_eq_true (by omega)
      have d2' : decide (12 < hl) = true := decide_eq_true hh12
      go_enter Tryz.func6, Tryz.ntmps6
      go_wp2_with (first
        | (go_at_call 7; refine (slow_any S1 a n c cap fuel).mono ?_; rw [hsl]; rintro e w2 ⟨rfl, S2⟩)
        | (go_at_call 8; refine (HC.out _ _ S2).mono ?_; rintro e w3 ⟨rfl, S3⟩; have c1 : w3.cell? ⟨w.heap.size, 1, none⟩ = some (.int .i64 cap) := S3.cell 0 rfl 1)
        | (refine wpList_load_guard (by rfl) 24 _ rfl (n := 3) rfl (Sat.whole S2 3) rfl Tryz.underlying24 rfl Tryz.sizeG ?_)
        | (refine wpList_load_part rfl 24 _ rfl (n := 3) rfl (Sat.whole S1 3) rfl Tryz.underlying24 rfl Tryz.sizeG ?_)
        | (go_at_call 9; refine (lknown_any S3).mono ?_; rintro e w5 ⟨rfl, S5⟩))
      go_ret
      exact ⟨rfl, S5.below⟩
    have d2 : decide ((12 : Int) < (hl : Int)) = false := decide_eq_false (by omega)
    have d2' : decide (12 < hl) = false := decide_eq_false hh12
    by_cases hmc : cap < (mn : Int)
    · have d3 : decide (cap < (mn : Int)) = true := decide_eq_true hmc
      go_enter Tryz.func6, Tryz.ntmps6
      go_wp2_with (first
        | (go_at_call 7; refine (slow_any S1 a n c cap fuel).mono ?_; rw [hsl]; rintro e w2 ⟨rfl, S2⟩)
        | (go_at_call 8; refine (HC.out _ _ S2).mono ?_; rintro e w3 ⟨rfl, S3⟩; have c1 : w3.cell? ⟨w.heap.size, 1, none⟩ = some (.int .i64 cap) := S3.cell 0 rfl 1)
        | (refine wpList_load_guard (by rfl) 24 _ rfl (n := 3) rfl (Sat.whole S2 3) rfl Tryz.underlying24 rfl Tryz.sizeG ?_)
        | (refine wpList_load_part rfl 24 _ rfl (n := 3) rfl (Sat.whole S1 3) rfl Tryz.underlying24 rfl Tryz.sizeG ?_)
        | (go_at_call 9; refine (lknown_any S3).mono ?_; rintro e w5 ⟨rfl, S5⟩))
      go_ret
      exact ⟨rfl, S5.below⟩
    have d3 : decide (cap < (mn : Int)) = false := decide_eq_false hmc
    by_cases hhc : cap < (hl : Int)
    · have d4 : decide (cap < (hl : Int)) = true := decide_eq_true hhc
      go_enter Tryz.func6, Tryz.ntmps6
      go_wp2_with (first
        | (go_at_call 7; refine (slow_any S1 a n c cap fuel).mono ?_; rw [hsl]; rintro e w2 ⟨rfl, S2⟩)
        | (go_at_call 8; refine (HC.out _ _ S2).mono ?_; rintro e w3 ⟨rfl, S3⟩; have c1 : w3.cell? ⟨w.heap.size, 1, none⟩ = some (.int .i64 cap) := S3.cell 0 rfl 1)
        | (refine wpList_load_guard (by rfl) 24 _ rfl (n := 3) rfl (Sat.whole S2 3) rfl Tryz.underlying24 rfl Tryz.sizeG ?_)
        | (refine wpList_load_part rfl 24 _ rfl (n := 3) rfl (Sat.whole S1 3) rfl Tryz.underlying24 rfl Tryz.sizeG ?_)
        | (go_at_call 9; refine (lknown_any S3).mono ?_; rintro e w5 ⟨rfl, S5⟩))
      go_ret
      exact ⟨rfl, S5.below⟩
    have d4 : decide (cap < (hl : Int)) = false := decide_eq_false hhc
    have HK := Lib.hid he0
    have HNW := Lib.hid (fun w' M (S : Sat w w' M) => (rbNew_ok S (c := c) (fun w' h => HRD.out _ _ h) HN.out cap fuel seed 0 he0 (.inl rfl) hsd))
    clear he0
    go_enter Tryz.func6, Tryz.ntmps6
    go_upto_region 7 with (first
      | (go_at_call 7; refine (slow_any S1 a n c cap fuel).mono ?_; rw [hsl]; rintro e w2 ⟨rfl, S2⟩)
      | (go_at_call 8; refine (HC.out _ _ S2).mono ?_; rintro e w3 ⟨rfl, S3⟩; have c1 : w3.cell? ⟨w.heap.size, 1, none⟩ = some (.int .i64 cap) := S3.cell 0 rfl 1)
      | (go_at_call 10; refine (HNW.out _ _ S4).mono ?_; rintro e w5 ⟨gb, rfl, S5⟩)
      | (go_at_call 10; refine (HNW.out _ _ S3).mono ?_; rintro e w4 ⟨ga, rfl, S4⟩)
      | (refine wpList_load_part rfl 24 _ rfl (n := 3) rfl (Sat.whole (S4.sel [1]) 3) rfl Tryz.underlying24 rfl Tryz.sizeG ?_)
      | (refine wpList_load_part rfl 24 _ rfl (n := 3) rfl (Sat.whole S3 3) rfl Tryz.underlying24 rfl Tryz.sizeG ?_)
      | (refine wpList_load_guard (by rfl) 24 _ rfl (n := 3) rfl (Sat.whole S2 3) rfl Tryz.underlying24 rfl Tryz.sizeG ?_)
      | (refine wpList_load_part rfl 24 _ rfl (n := 3) rfl (Sat.whole S1 3) rfl Tryz.underlying24 rfl Tryz.sizeG ?_))
    generalize w.heap.size = gp at S5 ⊢
    obtain ⟨game, hgame⟩ : ∃ game : List Value, [.slice a n c, .int .i64 cap, .int .i64 fuel] = game := ⟨_, rfl⟩
    have HGA := Lib.hid hgame
    rw [hgame] at S5
    obtain ⟨J, hJ⟩ : ∃ J : SK, (⟨code, cap, fuel, seed, 0⟩ : SK) = J := ⟨_, rfl⟩
    have HJ : Hid (J.code = code ∧ J.cap = cap ∧ J.fuel = fuel ∧ J.seed = seed ∧ J.me = 0) := by rw [← hJ]; exact ⟨rfl, rfl, rfl, rfl, rfl⟩
    rw [hJ] at S5
    have S6 : Sat w w5 (SS ga J J.new 0 :: SS gb J J.new 0 :: blk gp game 24 :: []) := S5.swap
    clear S0 S1 S2 S3 S4 S5 c1 HNW HC hsl d1 d1' d2 d2' d3 d4 hgame hJ
    have HAB : Hid (Bd mine ∧ Bd his) := ⟨HM.out.bd, HH.out.bd⟩
    have HCP : Hid ((mn : Int) ≤ cap ∧ (hl : Int) ≤ cap) := ⟨by omega, by omega⟩
    have hm8' : mn ≤ 8 := by omega
    have hh12' : hl ≤ 12 := by omega
    clear hm8 hh12 hmc hhc
    obtain ⟨i0, hi0, hz0, hz1, hz2⟩ := info_parts Tryz.infoI64
    obtain ⟨ip, hip, hp0, hp1, hp2⟩ := info_parts Tryz.infoP
    go_wp2_with fail
    go_loopw [15] (fun iv wr => ∃ (i : Nat) (s : PS), i ≤ mn ∧ iv = .int .i64 i ∧ Hid (SI J mine his (List.replicate hl false) s ∧ s.d = i) ∧ Sat w wr (SS ga J s i :: SS gb J s i :: blk gp game 24 :: [])) (fun iv _ => mn - (intOf iv).toNat)
    case atStart => exact ⟨0, J.new, by omega, rfl, ⟨SI.start hl, rfl⟩, S6⟩
    case round =>
      clear S6
      obtain ⟨i, s, him, rfl, HS, S7⟩ := hrel
      by_cases hlt : i < mn
      · have hd : decide ((i : Int) < (mn : Int)) = true := decide_eq_true (by omega)
        have hd' : decide (i < mn) = true := decide_eq_true hlt
        obtain ⟨mb, mo, x, rfl, hx, hxb, hmc⟩ := HM.out.at hlt S7.below
        have HMC := Lib.hid (fun (w' : World) (h : Below w.heap.size w w') => ((HM.out.rd.below h).at (j := i) (by unfold uv; rw [List.getElem?_map, hx]; rfl) : w'.cell? ⟨mb, mo + i, none⟩ = some (.int .u16 x)))
        have k0 : (0 : Int) ≤ (i : Int) := by omega
        have k1 : (i : Int) < (mn : Int) := by omega
        have hw : IntKind.i64.wrap ((i : Int) + 1) = (i : Int) + 1 := by rw [IntKind.wrap_i64]; omega
        have G := SS_good S7
        have HL := Lib.hid (fun g' w' M (S : Sat w w' (SS g' J s i :: M)) => sLoc_any S (by omega) hxb)
        unfold Loced at HL
        rcases HS.out.1.loc G (by rw [HS.out.2]; exact hx) with ⟨e, he, hl2⟩ | ⟨s', hl2, hd2, hI⟩
        · rw [hl2] at HL
          have hee : (e != 0) = true := by simpa using he
          have he2 : (e != e) = false := by simp
          clear hl2 G hx hxb he
          go_wp2_with (first
            | (go_at_call_of 11 (Value.pointer (some ⟨ga, 0, none⟩)); refine (HL.out _ _ _ S7).mono ?_; rintro e w8 ⟨rfl, S8⟩; have hmc := HMC.out _ S8.below)
            | (go_at_call_of 11 (Value.pointer (some ⟨gb, 0, none⟩)); refine (HL.out _ _ _ (S8.sel [1])).mono ?_; rintro e w9 ⟨rfl, S9⟩)
            | (go_at_call 9; refine (lknown_any S9).mono ?_; rintro e w10 ⟨rfl, S10⟩))
          go_ret
          exact ⟨rfl, S10.below⟩
        · rw [hl2] at HL
          have HI' : Hid (SI J mine his (List.replicate hl false) s' ∧ s'.d = i + 1) := ⟨hI, by rw [hd2, HS.out.2]⟩
          clear hl2 G hx hxb hI hd2
          go_wp2_with (first
            | (go_at_call_of 11 (Value.pointer (some ⟨ga, 0, none⟩)); refine (HL.out _ _ _ S7).mono ?_; rintro e w8 ⟨rfl, S8⟩; have hmc := HMC.out _ S8.below)
            | (go_at_call_of 11 (Value.pointer (some ⟨gb, 0, none⟩)); refine (HL.out _ _ _ (S8.sel [1])).mono ?_; rintro e w9 ⟨rfl, S9⟩))
          exact ⟨⟨i + 1, s', by omega, by go_num, HI'.out, S9.sel [1]⟩, by simp [intOf]; omega⟩
      · have hd : decide ((i : Int) < (mn : Int)) = false := decide_eq_false (by omega)
        have hd' : decide (i < mn) = false := decide_eq_false hlt
        obtain rfl : i = mn := by omega
        go_wp2_with fail
        clear hd hd' hlt
        go_loopw [20, 21] (fun lv iv wr => ∃ (k : Nat) (la : Option Addr) (lc : Nat), k ≤ hl ∧ iv = .int .i64 k ∧ lv = .slice la k lc ∧ Sat w wr (lis la k lc (rng k) :: SS ga J s i :: SS gb J s i :: blk gp game 24 :: [])) (fun _ iv _ => hl - (intOf iv).toNat)
        case atStart => exact ⟨0, none, 0, by omega, rfl, rfl, Sat.own_none.2 ⟨rfl, rfl, rfl, S7⟩⟩
        case round =>
          clear S7
          obtain ⟨k, la, lc, hk, rfl, rfl, S8⟩ := hrel
          by_cases hkl : k < hl
          · have hd : decide ((k : Int) < (hl : Int)) = true := decide_eq_true (by omega)
            have hd' : decide (k < hl) = true := decide_eq_true hkl
            have hw : IntKind.i64.wrap ((k : Int) + 1) = (k : Int) + 1 := by rw [IntKind.wrap_i64]; omega
            go_wp2_with (first
              | (at_builtin; refine wpList_append_sat rfl _ _ _ rfl 3 i0 _ 1 8 Tryz.underlying27 hi0 hz0 hz1 hz2 rfl (by decide) ((S8.alloc [.int .i64 k] 3).swap) rfl rfl (Rd.lit (heap_alloc_new _ _)) rfl (by simp [Value.oneCell']) (by unfold maxLen; omega) (by omega) ?_; intro ao' cap' w9 S9))
            refine ⟨⟨k + 1, ao', cap', by omega, by go_num, rfl, ?_⟩, by simp [intOf]; omega⟩
            rw [rng_succ]
            unfold lis
            rw [nv_append]
            exact (S9.sel [1]).tail
          · have hd : decide ((k : Int) < (hl : Int)) = false := decide_eq_false (by omega)
            have hd' : decide (k < hl) = false := decide_eq_false hkl
            obtain rfl : k = hl := by omega
            go_wp2_with fail
            clear hd hd' hkl
            go_loopw [20, 22] (fun lv iv wr => ∃ (j : Nat) (sa sb : PS) (told : List Bool) (la : Option Addr) (ln lc : Nat) (left : List Int), j ≤ k ∧ iv = .int .i64 j ∧ lv = .slice la ln lc ∧ ln + j = k ∧ Hid (SI J mine his (TT k j) sa ∧ SI J mine his told sb ∧ Left k told left ∧ sa.d = i ∧ sb.d = i) ∧ Sat w wr (OrM ga gb gp game J sa sb (i + j) la ln lc left)) (fun _ iv _ => k - (intOf iv).toNat)
            case atStart => exact ⟨0, s, s, _, la, k, lc, rng k, by omega, rfl, rfl, by omega, ⟨by rw [TT_zero]; exact HS.out.1, HS.out.1, Left.start k, HS.out.2, HS.out.2⟩, S8⟩
            case round =>
              clear S8 HS
              obtain ⟨j, sa, sb, told, la, ln, lc, left, hj, rfl, rfl, hln, HQ, S9⟩ := hrel
              by_cases hjk : j < k
              · as_aux_lemma =>
                  have hd : decide ((j : Int) < (k : Int)) = true := decide_eq_true (by omega)
                  have hd' : decide (j < k) = true := decide_eq_true hjk
                  have S10 : Sat w _ (lis la ln lc left :: SS ga J sa (i + j) :: SS gb J sb (i + j) :: blk gp game 24 :: []) := S9
                  obtain ⟨hb, ho, v, rfl, hv, hvb, hvc⟩ := HH.out.at hjk S10.below
                  have k0 : (0 : Int) ≤ (j : Int) := by omega
                  have k1 : (j : Int) < (k : Int) := by omega
                  have Ga := SS_good (S10.sel [1])
                  have Gb := SS_good (S10.sel [2])
                  have HL := Lib.hid (sRem_any (S10.sel [1]) (by omega) j hvb)
                  unfold Remed at HL
                  have hcp := HCP.out
                  have HRA : Hid (((J.rem sa j v).1 = 12 ∧ (J.rem sa j v).2 = sa) ∨ ((J.rem sa j v).1 = 0 ∧ (J.rem sa j v).2.d = i ∧ SI J mine his (TT k (j + 1)) (J.rem sa j v).2)) := by
                    have h12 := rem_12 (v := v) Ga (f := j) (by rw [HJ.out.2.1]; omega) (by omega) (by rw [HQ.out.1.oth]; exact TT_at)
                    rcases HQ.out.1.rem Ga hv (by rw [TT_len (by omega)]; omega) with ⟨e, he, h⟩ | ⟨s3, h, h2, h3⟩
                    · rw [h] at h12 ⊢
                      exact .inl ⟨by rcases h12 with h | h; exact absurd h he; exact h, rfl⟩
                    · rw [h]
                      rw [TT_set (by omega)] at h3
                      exact .inr ⟨rfl, by rw [h2, HQ.out.2.2.2.1], h3⟩
                  obtain ⟨A, hA⟩ : ∃ A, J.rem sa j v = A := ⟨_, rfl⟩
                  rw [hA] at HRA HL
                  obtain ⟨A1, sa2⟩ := A
                  dsimp only at HRA HL
                  have HG2 := Lib.hid Gb
                  clear hA Ga Gb hv hvb S9
                  go_upto_region 25 with (first
                    | (go_at_call 12; refine HL.out.mono ?_; rintro e w11 ⟨rfl, S11⟩))
                  clear hd hd' hvc HL S10
                  have S12 : Sat w w11 (lis la ln lc left :: SS ga J sa2 (i + j + 1) :: SS gb J sb (i + j) :: blk gp game 24 :: []) := S11.sel [1, 0]
                  clear S11
                  have hln1 : IntKind.i64.wrap ((ln : Int) - 1) = ((ln - 1 : Nat) : Int) := by rw [IntKind.wrap_i64]; omega
                  go_upto_if 147 with fail
                  go_cut [24] (fun kv wx => ∃ kk : Nat, kv = .int .i64 kk ∧ kk < ln ∧ Sat w wx (lis la ln lc left :: SS ga J sa2 (i + j + 1) :: SS gb J sb (i + j) :: blk gp game 24 :: []))
                  case first =>
                    by_cases hp : j < pn
                    · have hd : decide ((j : Int) < (pn : Int)) = true := decide_eq_true (by omega)
                      have hd' : decide (j < pn) = true := decide_eq_true hp
                      obtain ⟨pb, po, p, rfl, hpc⟩ := HP.out.at hp S12.below
                      have q1 : (j : Int) < (pn : Int) := by omega
                      obtain ⟨kk, hrem, hkk⟩ : ∃ kk : Nat, (p % 1024).tmod (ln : Int) = (kk : Int) ∧ kk < ln := by
                        have h1 : 0 ≤ p % 1024 := by omega
                        have h2 := Int.tmod_nonneg (ln : Int) h1
                        have h3 := Int.tmod_lt_of_pos (p % 1024) (show (0 : Int) < (ln : Int) by omega)
                        exact ⟨((p % 1024).tmod (ln : Int)).toNat, by omega, by omega⟩
                      have hm3 : bits .and .i64 p 1023 = p % 1024 := i64_mask p 1023 10 (by decide +kernel) (by decide)
                      have hlz : ¬ (ln : Int) = 0 := by omega
                      go_wp2_with fail
                      go_meet
                      exact ⟨kk, rfl, hkk, S12⟩
                    · have hd : decide ((j : Int) < (pn : Int)) = false := decide_eq_false (by omega)
                      have hd' : decide (j < pn) = false := decide_eq_false hp
                      go_wp2_with fail
                      go_meet
                      exact ⟨ln - 1, rfl, by omega, S12⟩
                  case rest =>
                    obtain ⟨kk, rfl, hkk, S13⟩ := hcut
                    clear S12 hln1
                    have hll := lis_len S13
                    obtain ⟨lb, lo, f0, rfl, hf, hlc⟩ := lis_at S13 hkk
                    have hfn := HQ.out.2.2.1.nn f0 (List.mem_of_getElem? hf)
                    obtain ⟨f, rfl⟩ : ∃ f : Nat, f0 = f := ⟨f0.toNat, by omega⟩
                    have hft := (HQ.out.2.2.1.iff f).2 (List.mem_of_getElem? hf)
                    have hfk : f < k := by have := (List.getElem?_eq_some_iff.1 hft).1; rw [HQ.out.2.2.1.tl] at this; exact this
                    obtain ⟨hb2, ho2, y, hhb, hy, hyb, hyc⟩ := HH.out.at hfk S13.below
                    cases hhb
                    have HLF := Lib.hid (HQ.out.2.2.1.next hf)
                    have HRM := Lib.hid (fun w' M (S : Sat w w' (SS gb J sb (i + j) :: M)) => sRem_any S (by omega) f hyb)
                    unfold Remed at HRM
                    have HRB : Hid (((J.rem sb f y).1 = 12 ∧ (J.rem sb f y).2 = sb) ∨ ((J.rem sb f y).1 = 0 ∧ (J.rem sb f y).2.d = i ∧ SI J mine his (told.set f true) (J.rem sb f y).2)) := by
                      have h12 := rem_12 (v := y) HG2.out (f := f) (by rw [HJ.out.2.1]; omega) (by omega) (by rw [HQ.out.2.1.oth, hft]; rfl)
                      rcases HQ.out.2.1.rem HG2.out hy (by rw [HQ.out.2.2.1.tl]; exact hfk) with ⟨e, he, h⟩ | ⟨s3, h, h2, h3⟩
                      · rw [h] at h12 ⊢
                        exact .inl ⟨by rcases h12 with h | h; exact absurd h he; exact h, rfl⟩
                      · rw [h]
                        exact .inr ⟨rfl, by rw [h2, HQ.out.2.2.2.2], h3⟩
                    obtain ⟨B, hB⟩ : ∃ B, J.rem sb f y = B := ⟨_, rfl⟩
                    rw [hB] at HRB HRM
                    obtain ⟨B1, sb2⟩ := B
                    dsimp only at HRB HRM
                    have HLC := Lib.hid (fun (w' : World) (M : List Asn) (h : Sat w w' (lis (some ⟨lb, lo, none⟩) ln lc left :: M)) => ((h : Sat w w' (slc 3 1 (some ⟨lb, lo, none⟩) ln lc (nv left) :: M)).own_rd.at (j := kk) (by unfold nv; rw [List.getElem?_map, hf]; rfl) : w'.cell? ⟨lb, lo + kk, none⟩ = some (.int .i64 f)))
                    have HHC := Lib.hid (fun (w' : World) (h : Below w.heap.size w w') => ((HH.out.rd.below h).at (j := f) (by unfold uv; rw [List.getElem?_map, hy]; rfl) : w'.cell? ⟨hb, ho + f, none⟩ = some (.int .u16 y)))
                    have HLL := Lib.hid hll
                    have q0 : (0 : Int) ≤ (kk : Int) := by omega
                    have q1 : (kk : Int) < (ln : Int) := by omega
                    have f0' : (0 : Int) ≤ (f : Int) := by omega
                    have f1' : (f : Int) < (k : Int) := by omega
                    clear hlc hyc hB hf hy hyb hft hcp hll
                    go_upto_region 28 with fail
                    refine wp_region_drawn (N := 14) (LN := #[false, false, false, false, false, false, false, false, false, false, false, false, false, false]) (by kernel_rfl) (by kernel_rfl) (by kernel_rfl) ?_
                    have S14 := S13.drew
                    generalize World.drew _ = w14 at S14 ⊢
                    clear S13
                    have c1 := HLC.out _ _ S14
                    have c2 := HHC.out _ S14.below
                    refine wpAny_seg 0 12 2 14 #[true, true, true, true, true, true, true, true, true, true, true, true, false, false] (by kernel_rfl) (by kernel_rfl) ?_
                    simp only [List.take_succ_cons, List.take_zero, List.drop_succ_cons, List.drop_zero]
                    refine wpStill_step (fun K hK => ?_); go_simp; refine hK _ ?_; clear hK K
                    try simp only [Act.put, List.getElem_toArray, List.getElem_cons_zero, List.getElem_cons_succ, List.setIfInBounds_toArray, List.set_cons_zero, List.set_cons_succ]
                    refine wpStill_step (fun K hK => ?_); go_simp; refine hK _ ?_; clear hK K
                    try simp only [Act.put, List.getElem_toArray, List.getElem_cons_zero, List.getElem_cons_succ, List.setIfInBounds_toArray, List.set_cons_zero, List.set_cons_succ]
                    refine wpStill_step (fun K hK => ?_); go_simp; refine hK _ ?_; clear hK K
                    try simp only [Act.put, List.getElem_toArray, List.getElem_cons_zero, List.getElem_cons_succ, List.setIfInBounds_toArray, List.set_cons_zero, List.set_cons_succ]
                    refine wpStill_step (fun K hK => ?_); go_simp; refine hK _ ?_; clear hK K
                    try simp only [Act.put, List.getElem_toArray, List.getElem_cons_zero, List.getElem_cons_succ, List.setIfInBounds_toArray, List.set_cons_zero, List.set_cons_succ]
                    refine wpStill_step (fun K hK => ?_); go_simp; refine hK _ ?_; clear hK K
                    try simp only [Act.put, List.getElem_toArray, List.getElem_cons_zero, List.getElem_cons_succ, List.setIfInBounds_toArray, List.set_cons_zero, List.set_cons_succ]
                    refine wpStill_step (fun K hK => ?_); go_simp; refine hK _ ?_; clear hK K
                    try simp only [Act.put, List.getElem_toArray, List.getElem_cons_zero, List.getElem_cons_succ, List.setIfInBounds_toArray, List.set_cons_zero, List.set_cons_succ]
                    refine wpStill_step (fun K hK => ?_); go_simp; refine hK _ ?_; clear hK K
                    try simp only [Act.put, List.getElem_toArray, List.getElem_cons_zero, List.getElem_cons_succ, List.setIfInBounds_toArray, List.set_cons_zero, List.set_cons_succ]
                    refine wpStill_step (fun K hK => ?_); go_simp; refine hK _ ?_; clear hK K
                    try simp only [Act.put, List.getElem_toArray, List.getElem_cons_zero, List.getElem_cons_succ, List.setIfInBounds_toArray, List.set_cons_zero, List.set_cons_succ]
                    refine wpStill_step (fun K hK => ?_); go_simp; refine hK _ ?_; clear hK K
                    try simp only [Act.put, List.getElem_toArray, List.getElem_cons_zero, List.getElem_cons_succ, List.setIfInBounds_toArray, List.set_cons_zero, List.set_cons_succ]
                    refine wpStill_step (fun K hK => ?_); go_simp; refine hK _ ?_; clear hK K
                    try simp only [Act.put, List.getElem_toArray, List.getElem_cons_zero, List.getElem_cons_succ, List.setIfInBounds_toArray, List.set_cons_zero, List.set_cons_succ]
                    refine wpStill_step (fun K hK => ?_); go_simp; refine hK _ ?_; clear hK K
                    try simp only [Act.put, List.getElem_toArray, List.getElem_cons_zero, List.getElem_cons_succ, List.setIfInBounds_toArray, List.set_cons_zero, List.set_cons_succ]
                    refine wpStill_step (fun K hK => ?_); go_simp; refine hK _ ?_; clear hK K
                    try simp only [Act.put, List.getElem_toArray, List.getElem_cons_zero, List.getElem_cons_succ, List.setIfInBounds_toArray, List.set_cons_zero, List.set_cons_succ]
                    refine wpStill_nil ?_
                    refine wpAny_one (i := 12) (LN := #[true, true, true, true, true, true, true, true, true, true, true, true, true, false]) (by kernel_rfl) rfl (by kernel_rfl) ?_
                    intro K hK
                    go_simp
                    go_at_call 12
                    refine (HRM.out _ _ (S14.sel [2])).mono ?_
                    rintro e w15 ⟨rfl, S15⟩
                    go_wp2_with fail
                    refine hK.out _ _ ?_
                    clear hK K
                    try simp only [Act.put, List.getElem_toArray, List.getElem_cons_zero, List.getElem_cons_succ, List.setIfInBounds_toArray, List.set_cons_zero, List.set_cons_succ]
                    refine wpAny_loc (i := 13) (v := ?_) (LN := #[true, true, true, true, true, true, true, true, true, true, true, true, true, true]) rfl (by kernel_rfl) (by kernel_rfl) (by kernel_rfl) (fun _ _ _ h => h) (by kernel_rfl) (by rfl) ?_ ?_
                    rotate_left
                    · intro w; first | (go_simp; done) | (go_simp; with_reducible rfl)
                    try simp only [Act.put, List.getElem_toArray, List.getElem_cons_zero, List.getElem_cons_succ, List.setIfInBounds_toArray, List.set_cons_zero, List.set_cons_succ]
                    refine ⟨by kernel_rfl, ?_⟩
                    try simp only [Act.put, List.getElem_toArray, List.getElem_cons_zero, List.getElem_cons_succ, List.setIfInBounds_toArray, List.set_cons_zero, List.set_cons_succ]
                    clear c1 c2 S14
                    have S18 : Sat w w15 (lis (some ⟨lb, lo, none⟩) ln lc left :: SS ga J sa2 (i + (j + 1)) :: SS gb J sb2 (i + (j + 1)) :: blk gp game 24 :: []) := S15.sel [1, 1, 0]
                    clear S15 HRM
                    go_upto_region 29 with fail
                    have s1 : IntKind.i64.wrap ((kk : Int) + 1) = (kk : Int) + 1 := by rw [IntKind.wrap_i64]; omega
                    have s2' : 0 ≤ (kk : Int) + 1 := by omega
                    have s3 : ((kk : Int) + 1).toNat = kk + 1 := by omega
                    have s4 : (kk : Int) + 1 ≤ (ln : Int) := by omega
                    have s5 : (kk : Int) ≤ (lc : Int) := by have := HLL.out.2.1; omega
                    have hll1 := HLL.out.1
                    have SA : Sat w (w15.alloc (.cells #[] 3)) (slc 3 1 (some ⟨w15.heap.size, 0, none⟩) 0 0 [] :: lis (some ⟨lb, lo, none⟩) ln lc left :: SS ga J sa2 (i + (j + 1)) :: SS gb J sb2 (i + (j + 1)) :: blk gp game 24 :: []) :=
                      Sat.own_new (post := []) (S18.alloc [] 3) rfl (Nat.le_refl _) (by unfold maxLen; omega) (by simp)
                    have hT1 : Rd (w15.alloc (.cells #[] 3)).drew (some ⟨lb, lo, none⟩) (nv (left.take kk)) := by
                      rw [nv_take]
                      exact ((SA.drew.sel [1] : Sat w _ (slc 3 1 (some ⟨lb, lo, none⟩) ln lc (nv left) :: _)).own_rd).take kk
                    have hT2 : ∀ w' L, Sat w w' (lis (some ⟨lb, lo, none⟩) ln lc left :: L) → Rd w' (if lc = kk + 1 then some ⟨lb, lo, none⟩ else some ⟨lb, lo + (kk + 1), none⟩) (nv (left.drop (kk + 1))) := by
                      intro w' L h
                      split
                      · rw [List.drop_of_length_le (by have := HLL.out; omega)]
                        exact Rd.nil _ _
                      · rw [nv_drop]
                        exact ((h : Sat w w' (slc 3 1 (some ⟨lb, lo, none⟩) ln lc (nv left) :: L)).own_rd).drop (kk + 1)
                    go_wp2_with fail
                    go_region_law (first
                      | (refine step_append_sat rfl (.tmp 169) (.tmp 172) _ rfl 3 i0 (.int .i64 0) 1 8 Tryz.underlying27 hi0 hz0 hz1 hz2 rfl (by decide) SA.drew rfl rfl hT1 (by rw [nv_length, List.length_take, Nat.min_eq_left (by omega), Nat.mul_one]) (nv_one _) (by unfold maxLen; omega) (by omega) ?_; intro ao1 cap1 w19 S19; simp only [Nat.zero_add, List.nil_append] at S19 ⊢)
                      | (refine step_append_sat rfl (.tmp 173) (.tmp 177) _ rfl 3 i0 (.int .i64 0) 1 8 Tryz.underlying27 hi0 hz0 hz1 hz2 rfl (by decide) S19 rfl rfl (hT2 _ _ (S19.sel [1])) (by rw [nv_length, List.length_drop, Nat.mul_one, hll1]) (nv_one _) (by unfold maxLen; omega) (by omega) ?_; intro ao2 cap2 w20 S20))
                    have S21 : Sat w w20 (OrM ga gb gp game J sa2 sb2 (i + (j + 1)) ao2 (kk + (ln - (kk + 1))) cap2 (left.take kk ++ left.drop (kk + 1))) := by
                      unfold OrM lis
                      rw [nv_append]
                      exact (S20.sel [1]).tail
                    clear S18 S19 S20 SA hT1 hT2 s1 s2' s3 s4 s5 hll1
                    have hw : IntKind.i64.wrap ((j : Int) + 1) = (j : Int) + 1 := by rw [IntKind.wrap_i64]; omega
                    by_cases hA0 : A1 = 0
                    · have HA2 : Hid (sa2.d = i ∧ SI J mine his (TT k (j + 1)) sa2) := by
                        rcases HRA.out with h | h
                        · exact absurd (hA0.symm.trans h.1) (by decide)
                        · exact h.2
                      by_cases hB0 : B1 = 0
                      · have HB2 : Hid (sb2.d = i ∧ SI J mine his (told.set f true) sb2) := by
                          rcases HRB.out with h | h
                          · exact absurd (hB0.symm.trans h.1) (by decide)
                          · exact h.2
                        have p1 : (A1 != 0) = false := by simpa using hA0
                        have p2 : (B1 != 0) = false := by simpa using hB0
                        clear hA0 hB0 HRA HRB
                        go_wp2_with fail
                        all_goals
                          go_roundw
                          case measure => simp [intOf]; omega
                          case rel => exact ⟨j + 1, sa2, sb2, _, ao2, _, cap2, _, by omega, by go_num, rfl, by omega, ⟨HA2.out.2, HB2.out.2, HLF.out, HA2.out.1, HB2.out.1⟩, S21⟩
                      · have p1 : (A1 != 0) = false := by simpa using hA0
                        have p2 : (B1 != 0) = true := by simpa using hB0
                        have p3 : (A1 == 12) = false := by rw [hA0]; rfl
                        have p4 : (B1 == 12) = true := by
                          rcases HRB.out with h | h
                          · simpa using h.1
                          · exact absurd h.1 hB0
                        clear hA0 hB0 HRA HRB
                        go_wp2_with (first
                          | (go_at_call 9; refine (lknown_any S21).mono ?_; rintro e w22 ⟨rfl, S22⟩))
                        all_goals
                          go_ret
                          exact ⟨rfl, S22.below⟩
                    · have p1 : (A1 != 0) = true := by simpa using hA0
                      have p3 : (A1 == 12) = true := by
                        rcases HRA.out with h | h
                        · simpa using h.1
                        · exact absurd h.1 hA0
                      clear hA0 HRA HRB
                      go_wp2_with (first
                        | (go_at_call 9; refine (lknown_any S21).mono ?_; rintro e w22 ⟨rfl, S22⟩))
                      all_goals
                        go_ret
                        exact ⟨rfl, S22.below⟩
              · have hd : decide ((j : Int) < (k : Int)) = false := decide_eq_false (by omega)
                have hd' : decide (j < k) = false := decide_eq_false hjk
                obtain rfl : j = k := by omega
                have S10 : Sat w _ (lis la ln lc left :: SS ga J sa (i + j) :: SS gb J sb (i + j) :: blk gp game 24 :: []) := S9
                have hl0 := (lis_len S10).1
                obtain rfl : left = [] := List.eq_nil_of_length_eq_zero (by omega)
                have Ga := SS_good (S10.sel [1])
                have Gb := SS_good (S10.sel [2])
                obtain ⟨e1, e2, e3⟩ := same_now HQ.out.1 HQ.out.2.1 Ga Gb (by rw [HQ.out.2.2.2.1, HQ.out.2.2.2.2]) (fun k => (HQ.out.2.2.1.none k).symm)
                obtain ⟨T, hT⟩ : ∃ T, min i j = T := ⟨_, rfl⟩
                have HT := Lib.hid hT
                have hsu := HQ.out.1.sure Ga
                rw [HQ.out.2.2.2.1, TT_lead (Nat.le_refl _), hT, HJ.out.2.2.2.2, HJ.out.1, HJ.out.2.1, HJ.out.2.2.1, HJ.out.2.2.2.1] at hsu
                have hokn := (stA_goes Ga.hk Ga.hs (rbq_qb Ga.qr) sa.d).1.ok
                have hoks := (stA_goes Ga.hk Ga.hs (rbq_qb Ga.qr) (sureN sa.q sa.d)).1.ok
                change (J.now sa).Ok at hokn
                change (J.sure sa).Ok at hoks
                obtain ⟨M, hM⟩ : ∃ M, J.now sa = M := ⟨_, rfl⟩
                obtain ⟨N, hN⟩ : ∃ N, J.sure sa = N := ⟨_, rfl⟩
                obtain ⟨KN, hKN⟩ : ∃ KN : Nat, sa.q.known (1 - J.me) = KN := ⟨_, rfl⟩
                rw [hM] at e1 hokn
                rw [hN] at e2 hsu hoks
                rw [hKN] at e3
                have HPL : Hid (playP code cap fuel seed (allP 0 mine his T) = (N, 0)) := by
                  show _ = _
                  rw [play_stL HK.out, hsu]
                have HE := Lib.hid (⟨hM, e1.symm, hN, e2.symm, hKN, e3.symm⟩ : J.now sa = M ∧ J.now sb = M ∧ J.sure sa = N ∧ J.sure sb = N ∧ sa.q.known (1 - J.me) = KN ∧ sb.q.known (1 - J.me) = KN)
                have HNL := Lib.hid (svals_length hoks.len)
                have HEQM := Lib.hid (fun w' => (run_eql_state (s := M) (t := M) w' hokn.len hokn.len).trans (by rw [decide_eq_true rfl]))
                have HEQN := Lib.hid (fun w' => (run_eql_state (s := N) (t := N) w' hoks.len hoks.len).trans (by rw [decide_eq_true rfl]))
                have HPB := Lib.hid (allP_u16 HAB.out.1 HAB.out.2 0 T)
                have hT8 : T ≤ 8 := by omega
                have hkk : ((KN : Int) == (KN : Int)) = true := by simp
                clear hT hsu hokn hoks hM hN hKN e1 e2 e3 Ga Gb hl0 S9
                go_wp2_with fail
                clear hd hd' hjk
                go_loopw [26, 27] (fun lv iv wr => ∃ (k2 : Nat) (ao : Option Addr) (ac : Nat), k2 ≤ T ∧ iv = .int .i64 k2 ∧ lv = .slice ao k2 ac ∧ Sat w wr (sps ao k2 ac (allP 0 mine his k2) :: SS ga J sa (i + j) :: SS gb J sb (i + j) :: blk gp game 24 :: [])) (fun _ iv _ => T - (intOf iv).toNat)
                case atStart => exact ⟨0, none, 0, by omega, rfl, rfl, Sat.own_none.2 ⟨rfl, rfl, rfl, S10.tail⟩⟩
                case round =>
                  as_aux_lemma =>
                    clear S10
                    obtain ⟨k2, ao, ac, hk2, rfl, rfl, S3⟩ := hrel
                    go_upto_region 34 with fail
                    go_cut [203] (fun v wx => ∃ b : Bool, v = .bool b ∧ Hid (b = decide (k2 < T)) ∧ Sat w wx (sps ao k2 ac (allP 0 mine his k2) :: SS ga J sa (i + j) :: SS gb J sb (i + j) :: blk gp game 24 :: []))
                    case first =>
                      have hTT := HT.out
                      by_cases h1 : k2 < i
                      · have hd1 : decide ((k2 : Int) < (i : Int)) = true := decide_eq_true (by omega)
                        have hd1' : decide (k2 < i) = true := decide_eq_true h1
                        by_cases h2 : k2 < j
                        · have hd2 : decide ((k2 : Int) < (j : Int)) = true := decide_eq_true (by omega)
                          have hd2' : decide (k2 < j) = true := decide_eq_true h2
                          clear hTT
                          go_wp2_with fail
                          go_meet
                          exact ⟨_, rfl, (decide_eq_true (by have := HT.out; omega)).symm, S3⟩
                        · have hd2 : decide ((k2 : Int) < (j : Int)) = false := decide_eq_false (by omega)
                          have hd2' : decide (k2 < j) = false := decide_eq_false h2
                          clear hTT
                          go_wp2_with fail
                          go_meet
                          exact ⟨_, rfl, (decide_eq_false (by have := HT.out; omega)).symm, S3⟩
                      · have hd1 : decide ((k2 : Int) < (i : Int)) = false := decide_eq_false (by omega)
                        have hd1' : decide (k2 < i) = false := decide_eq_false h1
                        clear hTT
                        go_wp2_with fail
                        go_meet
                        exact ⟨_, rfl, (decide_eq_false (by have := HT.out; omega)).symm, S3⟩
                    case rest =>
                      obtain ⟨b, rfl, HB, S3b⟩ := hcut
                      clear S3
                      by_cases hkl : k2 < T
                      · have hb := HB.out
                        rw [decide_eq_true hkl] at hb
                        subst hb
                        obtain ⟨mb, mo, v, rfl, hx, hxb, hmc⟩ := HM.out.at (k := k2) (by have := HT.out; omega) S3b.below
                        obtain ⟨hb, ho, u, rfl, hy, hyb, hyc⟩ := HH.out.at (k := k2) (by have := HT.out; omega) S3b.below
                        have HMC := Lib.hid (fun (w' : World) (h : Below w.heap.size w w') => ((HM.out.rd.below h).at (j := k2) (by unfold uv; rw [List.getElem?_map, hx]; rfl) : w'.cell? ⟨mb, mo + k2, none⟩ = some (.int .u16 v)))
                        have HHC := Lib.hid (fun (w' : World) (h : Below w.heap.size w w') => ((HH.out.rd.below h).at (j := k2) (by unfold uv; rw [List.getElem?_map, hy]; rfl) : w'.cell? ⟨hb, ho + k2, none⟩ = some (.int .u16 u)))
                        have HXY : Hid (mine[k2]?.getD 0 = v ∧ his[k2]?.getD 0 = u) := ⟨by rw [hx]; rfl, by rw [hy]; rfl⟩
                        have k0 : (0 : Int) ≤ (k2 : Int) := by omega
                        have k1 : (k2 : Int) < (i : Int) := by have := HT.out; omega
                        have k3 : (k2 : Int) < (j : Int) := by have := HT.out; omega
                        have hw : IntKind.i64.wrap ((k2 : Int) + 1) = (k2 : Int) + 1 := by rw [IntKind.wrap_i64]; omega
                        clear hmc hyc hx hy hxb hyb HB
                        go_upto_region 36 with fail
                        refine wp_region_drawn (N := 13) (LN := #[false, false, false, false, false, false, false, false, false, false, false, false, false]) (by kernel_rfl) (by kernel_rfl) (by kernel_rfl) ?_
                        have S4 := S3b.drew
                        generalize World.drew _ = w4 at S4 ⊢
                        clear S3b
                        refine wpAny_held (fun w' => w'.cell? ⟨mb, mo + k2, none⟩ = some (.int .u16 v) ∧ w'.cell? ⟨hb, ho + k2, none⟩ = some (.int .u16 u)) ⟨HMC.out _ S4.below, HHC.out _ S4.below⟩ (fun hHeld => ?_)
                        refine wpAnyH_tk (i := 0) (v := ?_) (LN := #[true, false, false, false, false, false, false, false, false, false, false, false, false]) rfl (by kernel_rfl) (by kernel_rfl) (by kernel_rfl) (fun _ _ _ h => h) (by kernel_rfl) (by rfl) (by assumption) ?_ ?_
                        rotate_left
                        · intro w hSw; (try dsimp only at hSw); first | (go_simp; done) | (go_simp; with_reducible rfl)
                        try simp only [Act.put, List.getElem_toArray, List.getElem_cons_zero, List.getElem_cons_succ, List.setIfInBounds_toArray, List.set_cons_zero, List.set_cons_succ]
                        refine wpAnyH_tk (i := 1) (v := ?_) (LN := #[true, true, false, false, false, false, false, false, false, false, false, false, false]) rfl (by kernel_rfl) (by kernel_rfl) (by kernel_rfl) (fun _ _ _ h => h) (by kernel_rfl) (by rfl) (by assumption) ?_ ?_
                        rotate_left
                        · intro w hSw; (try dsimp only at hSw); first | (go_simp; done) | (go_simp; with_reducible rfl)
                        try simp only [Act.put, List.getElem_toArray, List.getElem_cons_zero, List.getElem_cons_succ, List.setIfInBounds_toArray, List.set_cons_zero, List.set_cons_succ]
                        refine wpAnyH_tk (i := 2) (v := ?_) (LN := #[true, true, true, false, false, false, false, false, false, false, false, false, false]) rfl (by kernel_rfl) (by kernel_rfl) (by kernel_rfl) (fun _ _ _ h => h) (by kernel_rfl) (by rfl) (by assumption) ?_ ?_
                        rotate_left
                        · intro w hSw; (try dsimp only at hSw); first | (go_simp; done) | (go_simp; with_reducible rfl)
                        try simp only [Act.put, List.getElem_toArray, List.getElem_cons_zero, List.getElem_cons_succ, List.setIfInBounds_toArray, List.set_cons_zero, List.set_cons_succ]
                        refine wpAnyH_tk (i := 3) (v := ?_) (LN := #[true, true, true, true, false, false, false, false, false, false, false, false, false]) rfl (by kernel_rfl) (by kernel_rfl) (by kernel_rfl) (fun _ _ _ h => h) (by kernel_rfl) (by rfl) (by assumption) ?_ ?_
                        rotate_left
                        · intro w hSw; (try dsimp only at hSw); first | (go_simp; done) | (go_simp; with_reducible rfl)
                        try simp only [Act.put, List.getElem_toArray, List.getElem_cons_zero, List.getElem_cons_succ, List.setIfInBounds_toArray, List.set_cons_zero, List.set_cons_succ]
                        refine wpAnyH_tk (i := 4) (v := ?_) (LN := #[true, true, true, true, true, false, false, false, false, false, false, false, false]) rfl (by kernel_rfl) (by kernel_rfl) (by kernel_rfl) (fun _ _ _ h => h) (by kernel_rfl) (by rfl) (by assumption) ?_ ?_
                        rotate_left
                        · intro w hSw; (try dsimp only at hSw); first | (go_simp; done) | (go_simp; with_reducible rfl)
                        try simp only [Act.put, List.getElem_toArray, List.getElem_cons_zero, List.getElem_cons_succ, List.setIfInBounds_toArray, List.set_cons_zero, List.set_cons_succ]
                        refine wpAnyH_tk (i := 5) (v := ?_) (LN := #[true, true, true, true, true, true, false, false, false, false, false, false, false]) rfl (by kernel_rfl) (by kernel_rfl) (by kernel_rfl) (fun _ _ _ h => h) (by kernel_rfl) (by rfl) (by assumption) ?_ ?_
                        rotate_left
                        · intro w hSw; (try dsimp only at hSw); first | (go_simp; done) | (go_simp; with_reducible rfl)
                        try simp only [Act.put, List.getElem_toArray, List.getElem_cons_zero, List.getElem_cons_succ, List.setIfInBounds_toArray, List.set_cons_zero, List.set_cons_succ]
                        refine wpAnyH_tk (i := 6) (v := ?_) (LN := #[true, true, true, true, true, true, true, false, false, false, false, false, false]) rfl (by kernel_rfl) (by kernel_rfl) (by kernel_rfl) (fun _ _ _ h => h) (by kernel_rfl) (by rfl) (by assumption) ?_ ?_
                        rotate_left
                        · intro w hSw; (try dsimp only at hSw); first | (go_simp; done) | (go_simp; with_reducible rfl)
                        try simp only [Act.put, List.getElem_toArray, List.getElem_cons_zero, List.getElem_cons_succ, List.setIfInBounds_toArray, List.set_cons_zero, List.set_cons_succ]
                        refine wpAnyH_tk (i := 7) (v := ?_) (LN := #[true, true, true, true, true, true, true, true, false, false, false, false, false]) rfl (by kernel_rfl) (by kernel_rfl) (by kernel_rfl) (fun _ _ _ h => h) (by kernel_rfl) (by rfl) (by assumption) ?_ ?_
                        rotate_left
                        · intro w hSw; (try dsimp only at hSw); first | (go_simp; done) | (go_simp; with_reducible rfl)
                        try simp only [Act.put, List.getElem_toArray, List.getElem_cons_zero, List.getElem_cons_succ, List.setIfInBounds_toArray, List.set_cons_zero, List.set_cons_succ]
                        refine wpAnyH_tk (i := 8) (v := ?_) (LN := #[true, true, true, true, true, true, true, true, true, false, false, false, false]) rfl (by kernel_rfl) (by kernel_rfl) (by kernel_rfl) (fun _ _ _ h => h) (by kernel_rfl) (by rfl) (by assumption) ?_ ?_
                        rotate_left
                        · intro w hSw; (try dsimp only at hSw); first | (go_simp; done) | (go_simp; with_reducible rfl)
                        try simp only [Act.put, List.getElem_toArray, List.getElem_cons_zero, List.getElem_cons_succ, List.setIfInBounds_toArray, List.set_cons_zero, List.set_cons_succ]
                        refine wpAnyH_tk (i := 9) (v := ?_) (LN := #[true, true, true, true, true, true, true, true, true, true, false, false, false]) rfl (by kernel_rfl) (by kernel_rfl) (by kernel_rfl) (fun _ _ _ h => h) (by kernel_rfl) (by rfl) (by assumption) ?_ ?_
                        rotate_left
                        · intro w hSw; (try dsimp only at hSw); first | (go_simp; done) | (go_simp; with_reducible rfl)
                        try simp only [Act.put, List.getElem_toArray, List.getElem_cons_zero, List.getElem_cons_succ, List.setIfInBounds_toArray, List.set_cons_zero, List.set_cons_succ]
                        refine wpAnyH_one (i := 10) (LN := #[true, true, true, true, true, true, true, true, true, true, true, false, false]) (by kernel_rfl) rfl (by kernel_rfl) ?_
                        intro K hK
                        go_simp
                        have S5 := S4.alloc [.int .u16 v, .int .u16 u] 43
                        refine hK.out _ _ ⟨HMC.out _ S5.below, HHC.out _ S5.below⟩ ?_
                        clear hK K hHeld
                        intro hHeld
                        try simp only [Act.put, List.getElem_toArray, List.getElem_cons_zero, List.getElem_cons_succ, List.setIfInBounds_toArray, List.set_cons_zero, List.set_cons_succ]
                        refine wpAnyH_one (i := 11) (LN := #[true, true, true, true, true, true, true, true, true, true, true, true, false]) (by kernel_rfl) rfl (by kernel_rfl) ?_
                        intro K hK
                        refine step_append_sat rfl _ _ _ rfl 43 ip _ 2 4 Tryz.underlying41 hip hp0 hp1 hp2 rfl (by decide) (S5.sel [1]) rfl rfl (Rd.lit (S5.block 0 rfl).1) rfl (by simp [Value.oneCell']) (by unfold maxLen; omega) (by omega) ?_
                        intro ao' cap' w6 S6
                        refine hK.out _ _ ⟨HMC.out _ S6.below, HHC.out _ S6.below⟩ ?_
                        clear hK K hHeld
                        intro hHeld
                        try simp only [Act.put, List.getElem_toArray, List.getElem_cons_zero, List.getElem_cons_succ, List.setIfInBounds_toArray, List.set_cons_zero, List.set_cons_succ]
                        refine wpAnyH_tk (i := 12) (v := ?_) (LN := #[true, true, true, true, true, true, true, true, true, true, true, true, true]) rfl (by kernel_rfl) (by kernel_rfl) (by kernel_rfl) (fun _ _ _ h => h) (by kernel_rfl) (by rfl) (by assumption) ?_ ?_
                        rotate_left
                        · intro w hSw; (try dsimp only at hSw); first | (go_simp; done) | (go_simp; with_reducible rfl)
                        try simp only [Act.put, List.getElem_toArray, List.getElem_cons_zero, List.getElem_cons_succ, List.setIfInBounds_toArray, List.set_cons_zero, List.set_cons_succ]
                        refine ⟨by kernel_rfl, ?_⟩
                        try simp only [Act.put, List.getElem_toArray, List.getElem_cons_zero, List.getElem_cons_succ, List.setIfInBounds_toArray, List.set_cons_zero, List.set_cons_succ]
                        clear hHeld
                        go_wp2_with fail
                        go_roundw
                        case measure => simp [intOf]; omega
                        case rel =>
                          refine ⟨k2 + 1, ao', cap', by omega, by go_num, rfl, ?_⟩
                          have e2 : pv (allP 0 mine his (k2 + 1)) = pv (allP 0 mine his k2) ++ [.int .u16 v, .int .u16 u] := by
                            rw [allP_succ, if_pos rfl, pv_append, HXY.out.1, HXY.out.2]; rfl
                          unfold sps
                          rw [e2]
                          exact (S6.sel [1]).tail
                      · have hb := HB.out
                        rw [decide_eq_false hkl] at hb
                        subst hb
                        obtain rfl : k2 = T := by omega
                        have hga := HGA.out
                        subst hga
                        go_upto_region 38 with (first
                          | (refine wpList_load_part rfl 24 _ rfl (n := 3) rfl (Sat.whole (S3b.sel [3]) 3) rfl Tryz.underlying24 rfl Tryz.sizeG ?_)
                          | (go_at_call 13; refine (r11play_any S3b (fun w' h => HRD.out _ _ h) HN.out hnm cap fuel seed hsd (fun w' h => by rw [← pv_pairsv]; exact h.own_rd) (allP_length _ _ _ _) (by omega) HPB.out).mono ?_; unfold Stepped; rw [HPL.out]; rintro e w17 ⟨rfl, S17⟩; have S18 := S17.alloc [.int .i64 0, .int .i32 0, .int .i32 0, .int .i32 0, .int .i32 0, .int .i32 0, .int .i32 0, .int .i32 0, .int .i32 0, .int .i32 0, .int .i32 0, .int .i32 0, .int .i32 0, .int .i32 0, .int .i32 0, .int .i32 0, .int .i32 0, .int .u32 0, .bool false, .int .i64 0] 46)
                          | (refine wpList_store_sat (off := 0) (n := 20) rfl 46 _ _ rfl S18 rfl rfl HNL.out (by decide) Tryz.sizeS (svals_one N) ?_; intro w19 S19; rw [zstore] at S19))
                        have S20 : Sat w w19 (blk w17.heap.size (svals N) 46 :: SS ga J sa (i + j) :: SS gb J sb (i + j) :: sps ao k2 ac (allP 0 mine his k2) :: blk gp [.slice a n c, .int .i64 cap, .int .i64 fuel] 24 :: []) := S19.sel [0, 1, 1]
                        generalize w17.heap.size = pb at S20 ⊢
                        clear S3b S17 S18 S19 HB hkl
                        refine wp_region_drawn (N := 29) (LN := #[false, false, false, false, false, false, false, false, false, false, false, false, false, false, false, false, false, false, false, false, false, false, false, false, false, false, false, false, false]) (by kernel_rfl) (by kernel_rfl) (by kernel_rfl) ?_
                        have S21 := S20.drew
                        generalize World.drew _ = w21 at S21 ⊢
                        clear S20
                        refine wpAny_held (fun w' => ∀ j, j < 20 → w'.cell? ⟨pb, 0 + j, none⟩ = (svals N)[j]?) (Sat.whole S21 20) (fun hHeld => ?_)
                        refine wpAnyH_tk (i := 0) (v := ?_) (LN := #[true, false, false, false, false, false, false, false, false, false, false, false, false, false, false, false, false, false, false, false, false, false, false, false, false, false, false, false, false]) rfl (by kernel_rfl) (by kernel_rfl) (by kernel_rfl) (fun _ _ _ h => h) (by kernel_rfl) (by rfl) (by assumption) ?_ ?_
                        rotate_left
                        · intro w hSw; (try dsimp only at hSw); first | (go_simp; done) | (go_simp; with_reducible rfl)
                        try simp only [Act.put, List.getElem_toArray, List.getElem_cons_zero, List.getElem_cons_succ, List.setIfInBounds_toArray, List.set_cons_zero, List.set_cons_succ]
                        refine wpAnyH_tk (i := 2) (v := ?_) (LN := #[true, false, true, false, false, false, false, false, false, false, false, false, false, false, false, false, false, false, false, false, false, false, false, false, false, false, false, false, false]) rfl (by kernel_rfl) (by kernel_rfl) (by kernel_rfl) (fun _ _ _ h => h) (by kernel_rfl) (by rfl) (by assumption) ?_ ?_
                        rotate_left
                        · intro w hSw; (try dsimp only at hSw); first | (go_simp; done) | (go_simp; with_reducible rfl)
                        try simp only [Act.put, List.getElem_toArray, List.getElem_cons_zero, List.getElem_cons_succ, List.setIfInBounds_toArray, List.set_cons_zero, List.set_cons_succ]
                        refine wpAnyH_one (i := 1) (LN := #[true, true, true, false, false, false, false, false, false, false, false, false, false, false, false, false, false, false, false, false, false, false, false, false, false, false, false, false, false]) (by kernel_rfl) rfl (by kernel_rfl) ?_
                        intro K hK
                        go_simp
                        go_at_call 19
                        refine (sNow_any (S21.sel [1])).mono ?_
                        rw [HE.out.1]
                        rintro e w22 ⟨rfl, S22⟩
                        go_wp2_with fail
                        refine hK.out _ _ (Sat.whole (S22.sel [1]) 20) ?_
                        clear hK K hHeld
                        intro hHeld
                        try simp only [Act.put, List.getElem_toArray, List.getElem_cons_zero, List.getElem_cons_succ, List.setIfInBounds_toArray, List.set_cons_zero, List.set_cons_succ]
                        refine wpAnyH_one (i := 3) (LN := #[true, true, true, true, false, false, false, false, false, false, false, false, false, false, false, false, false, false, false, false, false, false, false, false, false, false, false, false, false]) (by kernel_rfl) rfl (by kernel_rfl) ?_
                        intro K hK
                        go_simp
                        go_at_call 19
                        refine (sNow_any (S22.sel [2])).mono ?_
                        rw [HE.out.2.1]
                        rintro e w23 ⟨rfl, S23⟩
                        go_wp2_with fail
                        refine hK.out _ _ (Sat.whole (S23.sel [2]) 20) ?_
                        clear hK K hHeld
                        intro hHeld
                        try simp only [Act.put, List.getElem_toArray, List.getElem_cons_zero, List.getElem_cons_succ, List.setIfInBounds_toArray, List.set_cons_zero, List.set_cons_succ]
                        refine wpAnyH_tk (i := 4) (LN := #[true, true, true, true, true, false, false, false, false, false, false, false, false, false, false, false, false, false, false, false, false, false, false, false, false, false, false, false, false]) rfl (by kernel_rfl) (by kernel_rfl) (by kernel_rfl) (fun _ _ _ h => h) (by kernel_rfl) (by rfl) (by assumption) (fun w h => run_eq_part .eql 46 _ _ rfl (r := true) rfl rfl (by kernel_rfl) (HEQM.out _)) ?_
                        try simp only [Act.put, List.getElem_toArray, List.getElem_cons_zero, List.getElem_cons_succ, List.setIfInBounds_toArray, List.set_cons_zero, List.set_cons_succ]
                        refine wpAnyH_tk (i := 5) (v := ?_) (LN := #[true, true, true, true, true, true, false, false, false, false, false, false, false, false, false, false, false, false, false, false, false, false, false, false, false, false, false, false, false]) rfl (by kernel_rfl) (by kernel_rfl) (by kernel_rfl) (fun _ _ _ h => h) (by kernel_rfl) (by rfl) (by assumption) ?_ ?_
                        rotate_left
                        · intro w hSw; (try dsimp only at hSw); first | (go_simp; done) | (go_simp; with_reducible rfl)
                        try simp only [Act.put, List.getElem_toArray, List.getElem_cons_zero, List.getElem_cons_succ, List.setIfInBounds_toArray, List.set_cons_zero, List.set_cons_succ]
                        refine wpAnyH_tk (i := 6) (v := ?_) (LN := #[true, true, true, true, true, true, true, false, false, false, false, false, false, false, false, false, false, false, false, false, false, false, false, false, false, false, false, false, false]) rfl (by kernel_rfl) (by kernel_rfl) (by kernel_rfl) (fun _ _ _ h => h) (by kernel_rfl) (by rfl) (by assumption) ?_ ?_
                        rotate_left
                        · intro w hSw; (try dsimp only at hSw); first | (go_simp; done) | (go_simp; with_reducible rfl)
                        try simp only [Act.put, List.getElem_toArray, List.getElem_cons_zero, List.getElem_cons_succ, List.setIfInBounds_toArray, List.set_cons_zero, List.set_cons_succ]
                        refine wpAnyH_tk (i := 8) (v := ?_) (LN := #[true, true, true, true, true, true, true, false, true, false, false, false, false, false, false, false, false, false, false, false, false, false, false, false, false, false, false, false, false]) rfl (by kernel_rfl) (by kernel_rfl) (by kernel_rfl) (fun _ _ _ h => h) (by kernel_rfl) (by rfl) (by assumption) ?_ ?_
                        rotate_left
                        · intro w hSw; (try dsimp only at hSw); first | (go_simp; done) | (go_simp; with_reducible rfl)
                        try simp only [Act.put, List.getElem_toArray, List.getElem_cons_zero, List.getElem_cons_succ, List.setIfInBounds_toArray, List.set_cons_zero, List.set_cons_succ]
                        refine wpAnyH_one (i := 7) (LN := #[true, true, true, true, true, true, true, true, true, false, false, false, false, false, false, false, false, false, false, false, false, false, false, false, false, false, false, false, false]) (by kernel_rfl) rfl (by kernel_rfl) ?_
                        intro K hK
                        go_simp
                        go_at_call 14
                        refine (sSure_any (S23.sel [1])).mono ?_
                        rw [HE.out.2.2.1]
                        rintro e w24 ⟨rfl, S24⟩
                        go_wp2_with fail
                        refine hK.out _ _ (Sat.whole (S24.sel [2]) 20) ?_
                        clear hK K hHeld
                        intro hHeld
                        try simp only [Act.put, List.getElem_toArray, List.getElem_cons_zero, List.getElem_cons_succ, List.setIfInBounds_toArray, List.set_cons_zero, List.set_cons_succ]
                        refine wpAnyH_one (i := 9) (LN := #[true, true, true, true, true, true, true, true, true, true, false, false, false, false, false, false, false, false, false, false, false, false, false, false, false, false, false, false, false]) (by kernel_rfl) rfl (by kernel_rfl) ?_
                        intro K hK
                        go_simp
                        go_at_call 14
                        refine (sSure_any (S24.sel [1])).mono ?_
                        rw [HE.out.2.2.2.1]
                        rintro e w25 ⟨rfl, S25⟩
                        go_wp2_with fail
                        refine hK.out _ _ (Sat.whole (S25.sel [2]) 20) ?_
                        clear hK K hHeld
                        intro hHeld
                        try simp only [Act.put, List.getElem_toArray, List.getElem_cons_zero, List.getElem_cons_succ, List.setIfInBounds_toArray, List.set_cons_zero, List.set_cons_succ]
                        refine wpAnyH_tk (i := 10) (LN := #[true, true, true, true, true, true, true, true, true, true, true, false, false, false, false, false, false, false, false, false, false, false, false, false, false, false, false, false, false]) rfl (by kernel_rfl) (by kernel_rfl) (by kernel_rfl) (fun _ _ _ h => h) (by kernel_rfl) (by rfl) (by assumption) (fun w h => run_eq_part .eql 46 _ _ rfl (r := true) rfl rfl (by kernel_rfl) (HEQN.out _)) ?_
                        try simp only [Act.put, List.getElem_toArray, List.getElem_cons_zero, List.getElem_cons_succ, List.setIfInBounds_toArray, List.set_cons_zero, List.set_cons_succ]
                        refine wpAnyH_tk (i := 11) (v := ?_) (LN := #[true, true, true, true, true, true, true, true, true, true, true, true, false, false, false, false, false, false, false, false, false, false, false, false, false, false, false, false, false]) rfl (by kernel_rfl) (by kernel_rfl) (by kernel_rfl) (fun _ _ _ h => h) (by kernel_rfl) (by rfl) (by assumption) ?_ ?_
                        rotate_left
                        · intro w hSw; (try dsimp only at hSw); first | (go_simp; done) | (go_simp; with_reducible rfl)
                        try simp only [Act.put, List.getElem_toArray, List.getElem_cons_zero, List.getElem_cons_succ, List.setIfInBounds_toArray, List.set_cons_zero, List.set_cons_succ]
                        refine wpAnyH_tk (i := 12) (v := ?_) (LN := #[true, true, true, true, true, true, true, true, true, true, true, true, true, false, false, false, false, false, false, false, false, false, false, false, false, false, false, false, false]) rfl (by kernel_rfl) (by kernel_rfl) (by kernel_rfl) (fun _ _ _ h => h) (by kernel_rfl) (by rfl) (by assumption) ?_ ?_
                        rotate_left
                        · intro w hSw; (try dsimp only at hSw); first | (go_simp; done) | (go_simp; with_reducible rfl)
                        try simp only [Act.put, List.getElem_toArray, List.getElem_cons_zero, List.getElem_cons_succ, List.setIfInBounds_toArray, List.set_cons_zero, List.set_cons_succ]
                        refine wpAnyH_tk (i := 13) (v := ?_) (LN := #[true, true, true, true, true, true, true, true, true, true, true, true, true, true, false, false, false, false, false, false, false, false, false, false, false, false, false, false, false]) rfl (by kernel_rfl) (by kernel_rfl) (by kernel_rfl) (fun _ _ _ h => h) (by kernel_rfl) (by rfl) (by assumption) ?_ ?_
                        rotate_left
                        · intro w hSw; (try dsimp only at hSw); first | (go_simp; done) | (go_simp; with_reducible rfl)
                        try simp only [Act.put, List.getElem_toArray, List.getElem_cons_zero, List.getElem_cons_succ, List.setIfInBounds_toArray, List.set_cons_zero, List.set_cons_succ]
                        refine wpAnyH_tk (i := 15) (LN := #[true, true, true, true, true, true, true, true, true, true, true, true, true, true, false, true, false, false, false, false, false, false, false, false, false, false, false, false, false]) rfl (by kernel_rfl) (by kernel_rfl) (by kernel_rfl) (fun _ _ _ h => h) (by kernel_rfl) (by rfl) (by assumption) (fun w h => run_load_part 46 _ rfl (g := pb) (off := 0) (n := 20) rfl (h) HNL.out Tryz.underlying46 rfl (by kernel_rfl)) ?_
                        try simp only [Act.put, List.getElem_toArray, List.getElem_cons_zero, List.getElem_cons_succ, List.setIfInBounds_toArray, List.set_cons_zero, List.set_cons_succ]
                        refine wpAnyH_one (i := 14) (LN := #[true, true, true, true, true, true, true, true, true, true, true, true, true, true, true, true, false, false, false, false, false, false, false, false, false, false, false, false, false]) (by kernel_rfl) rfl (by kernel_rfl) ?_
                        intro K hK
                        go_simp
                        go_at_call 14
                        refine (sSure_any (S25.sel [1])).mono ?_
                        rw [HE.out.2.2.1]
                        rintro e w26 ⟨rfl, S26⟩
                        go_wp2_with fail
                        refine hK.out _ _ (Sat.whole (S26.sel [2]) 20) ?_
                        clear hK K hHeld
                        intro hHeld
                        try simp only [Act.put, List.getElem_toArray, List.getElem_cons_zero, List.getElem_cons_succ, List.setIfInBounds_toArray, List.set_cons_zero, List.set_cons_succ]
                        refine wpAnyH_tk (i := 16) (LN := #[true, true, true, true, true, true, true, true, true, true, true, true, true, true, true, true, true, false, false, false, false, false, false, false, false, false, false, false, false]) rfl (by kernel_rfl) (by kernel_rfl) (by kernel_rfl) (fun _ _ _ h => h) (by kernel_rfl) (by rfl) (by assumption) (fun w h => run_eq_part .eql 46 _ _ rfl (r := true) rfl rfl (by kernel_rfl) (HEQN.out _)) ?_
                        try simp only [Act.put, List.getElem_toArray, List.getElem_cons_zero, List.getElem_cons_succ, List.setIfInBounds_toArray, List.set_cons_zero, List.set_cons_succ]
                        refine wpAnyH_tk (i := 17) (v := ?_) (LN := #[true, true, true, true, true, true, true, true, true, true, true, true, true, true, true, true, true, true, false, false, false, false, false, false, false, false, false, false, false]) rfl (by kernel_rfl) (by kernel_rfl) (by kernel_rfl) (fun _ _ _ h => h) (by kernel_rfl) (by rfl) (by assumption) ?_ ?_
                        rotate_left
                        · intro w hSw; (try dsimp only at hSw); first | (go_simp; done) | (go_simp; with_reducible rfl)
                        try simp only [Act.put, List.getElem_toArray, List.getElem_cons_zero, List.getElem_cons_succ, List.setIfInBounds_toArray, List.set_cons_zero, List.set_cons_succ]
                        refine wpAnyH_tk (i := 18) (v := ?_) (LN := #[true, true, true, true, true, true, true, true, true, true, true, true, true, true, true, true, true, true, true, false, false, false, false, false, false, false, false, false, false]) rfl (by kernel_rfl) (by kernel_rfl) (by kernel_rfl) (fun _ _ _ h => h) (by kernel_rfl) (by rfl) (by assumption) ?_ ?_
                        rotate_left
                        · intro w hSw; (try dsimp only at hSw); first | (go_simp; done) | (go_simp; with_reducible rfl)
                        try simp only [Act.put, List.getElem_toArray, List.getElem_cons_zero, List.getElem_cons_succ, List.setIfInBounds_toArray, List.set_cons_zero, List.set_cons_succ]
                        refine wpAnyH_tk (i := 19) (v := ?_) (LN := #[true, true, true, true, true, true, true, true, true, true, true, true, true, true, true, true, true, true, true, true, false, false, false, false, false, false, false, false, false]) rfl (by kernel_rfl) (by kernel_rfl) (by kernel_rfl) (fun _ _ _ h => h) (by kernel_rfl) (by rfl) (by assumption) ?_ ?_
                        rotate_left
                        · intro w hSw; (try dsimp only at hSw); first | (go_simp; done) | (go_simp; with_reducible rfl)
                        try simp only [Act.put, List.getElem_toArray, List.getElem_cons_zero, List.getElem_cons_succ, List.setIfInBounds_toArray, List.set_cons_zero, List.set_cons_succ]
                        refine wpAnyH_tk (i := 21) (v := ?_) (LN := #[true, true, true, true, true, true, true, true, true, true, true, true, true, true, true, true, true, true, true, true, false, true, false, false, false, false, false, false, false]) rfl (by kernel_rfl) (by kernel_rfl) (by kernel_rfl) (fun _ _ _ h => h) (by kernel_rfl) (by rfl) (by assumption) ?_ ?_
                        rotate_left
                        · intro w hSw; (try dsimp only at hSw); first | (go_simp; done) | (go_simp; with_reducible rfl)
                        try simp only [Act.put, List.getElem_toArray, List.getElem_cons_zero, List.getElem_cons_succ, List.setIfInBounds_toArray, List.set_cons_zero, List.set_cons_succ]
                        refine wpAnyH_one (i := 20) (LN := #[true, true, true, true, true, true, true, true, true, true, true, true, true, true, true, true, true, true, true, true, true, true, false, false, false, false, false, false, false]) (by kernel_rfl) rfl (by kernel_rfl) ?_
                        intro K hK
                        go_simp
                        go_at_call 22
                        refine (sNeeds_any S26).mono ?_
                        rw [HE.out.2.2.2.2.1]
                        rintro e w27 ⟨rfl, S27⟩
                        go_wp2_with fail
                        refine hK.out _ _ (Sat.whole (S27.sel [2]) 20) ?_
                        clear hK K hHeld
                        intro hHeld
                        try simp only [Act.put, List.getElem_toArray, List.getElem_cons_zero, List.getElem_cons_succ, List.setIfInBounds_toArray, List.set_cons_zero, List.set_cons_succ]
                        refine wpAnyH_one (i := 22) (LN := #[true, true, true, true, true, true, true, true, true, true, true, true, true, true, true, true, true, true, true, true, true, true, true, false, false, false, false, false, false]) (by kernel_rfl) rfl (by kernel_rfl) ?_
                        intro K hK
                        go_simp
                        go_at_call 22
                        refine (sNeeds_any (S27.sel [1])).mono ?_
                        rw [HE.out.2.2.2.2.2]
                        rintro e w28 ⟨rfl, S28⟩
                        go_wp2_with fail
                        refine hK.out _ _ (Sat.whole (S28.sel [2]) 20) ?_
                        clear hK K hHeld
                        intro hHeld
                        try simp only [Act.put, List.getElem_toArray, List.getElem_cons_zero, List.getElem_cons_succ, List.setIfInBounds_toArray, List.set_cons_zero, List.set_cons_succ]
                        refine wpAnyH_tk (i := 23) (v := ?_) (LN := #[true, true, true, true, true, true, true, true, true, true, true, true, true, true, true, true, true, true, true, true, true, true, true, true, false, false, false, false, false]) rfl (by kernel_rfl) (by kernel_rfl) (by kernel_rfl) (fun _ _ _ h => h) (by kernel_rfl) (by rfl) (by assumption) ?_ ?_
                        rotate_left
                        · intro w hSw; (try dsimp only at hSw); first | (go_simp; done) | (go_simp; with_reducible rfl)
                        try simp only [Act.put, List.getElem_toArray, List.getElem_cons_zero, List.getElem_cons_succ, List.setIfInBounds_toArray, List.set_cons_zero, List.set_cons_succ]
                        refine wpAnyH_tk (i := 24) (v := ?_) (LN := #[true, true, true, true, true, true, true, true, true, true, true, true, true, true, true, true, true, true, true, true, true, true, true, true, true, false, false, false, false]) rfl (by kernel_rfl) (by kernel_rfl) (by kernel_rfl) (fun _ _ _ h => h) (by kernel_rfl) (by rfl) (by assumption) ?_ ?_
                        rotate_left
                        · intro w hSw; (try dsimp only at hSw); first | (go_simp; done) | (go_simp; with_reducible rfl)
                        try simp only [Act.put, List.getElem_toArray, List.getElem_cons_zero, List.getElem_cons_succ, List.setIfInBounds_toArray, List.set_cons_zero, List.set_cons_succ]
                        refine wpAnyH_tk (i := 25) (v := ?_) (LN := #[true, true, true, true, true, true, true, true, true, true, true, true, true, true, true, true, true, true, true, true, true, true, true, true, true, true, false, false, false]) rfl (by kernel_rfl) (by kernel_rfl) (by kernel_rfl) (fun _ _ _ h => h) (by kernel_rfl) (by rfl) (by assumption) ?_ ?_
                        rotate_left
                        · intro w hSw; (try dsimp only at hSw); first | (go_simp; done) | (go_simp; with_reducible rfl)
                        try simp only [Act.put, List.getElem_toArray, List.getElem_cons_zero, List.getElem_cons_succ, List.setIfInBounds_toArray, List.set_cons_zero, List.set_cons_succ]
                        refine wpAnyH_one (i := 26) (LN := #[true, true, true, true, true, true, true, true, true, true, true, true, true, true, true, true, true, true, true, true, true, true, true, true, true, true, true, false, false]) (by kernel_rfl) rfl (by kernel_rfl) ?_
                        intro K hK
                        go_simp
                        go_at_call 9
                        refine (lknown_any S28).mono ?_
                        rintro e w29 ⟨rfl, S29⟩
                        go_wp2_with fail
                        refine hK.out _ _ (Sat.whole (S29.sel [2]) 20) ?_
                        clear hK K hHeld
                        intro hHeld
                        try simp only [Act.put, List.getElem_toArray, List.getElem_cons_zero, List.getElem_cons_succ, List.setIfInBounds_toArray, List.set_cons_zero, List.set_cons_succ]
                        refine wpAnyH_tk (i := 27) (v := ?_) (LN := #[true, true, true, true, true, true, true, true, true, true, true, true, true, true, true, true, true, true, true, true, true, true, true, true, true, true, true, true, false]) rfl (by kernel_rfl) (by kernel_rfl) (by kernel_rfl) (fun _ _ _ h => h) (by kernel_rfl) (by rfl) (by assumption) ?_ ?_
                        rotate_left
                        · intro w hSw; (try dsimp only at hSw); first | (go_simp; done) | (go_simp; with_reducible rfl)
                        try simp only [Act.put, List.getElem_toArray, List.getElem_cons_zero, List.getElem_cons_succ, List.setIfInBounds_toArray, List.set_cons_zero, List.set_cons_succ]
                        refine wpAnyH_tk (i := 28) (v := ?_) (LN := #[true, true, true, true, true, true, true, true, true, true, true, true, true, true, true, true, true, true, true, true, true, true, true, true, true, true, true, true, true]) rfl (by kernel_rfl) (by kernel_rfl) (by kernel_rfl) (fun _ _ _ h => h) (by kernel_rfl) (by rfl) (by assumption) ?_ ?_
                        rotate_left
                        · intro w hSw; (try dsimp only at hSw); first | (go_simp; done) | (go_simp; with_reducible rfl)
                        try simp only [Act.put, List.getElem_toArray, List.getElem_cons_zero, List.getElem_cons_succ, List.setIfInBounds_toArray, List.set_cons_zero, List.set_cons_succ]
                        refine ⟨by kernel_rfl, ?_⟩
                        try simp only [Act.put, List.getElem_toArray, List.getElem_cons_zero, List.getElem_cons_succ, List.setIfInBounds_toArray, List.set_cons_zero, List.set_cons_succ]
                        go_wp2_with fail
                        go_ret
                        exact ⟨rfl, S29.below⟩
end Go.Proofs.YtjdeeloemhjbhaaGreat
