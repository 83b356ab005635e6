/-
  The law InputsAnyOrder, walked.
-/
import Derived.Test.YtbjhhkhhfjmnjaaInp6
import Derived.Test.YtbjhhkhhfjmnjaaInpR4
import Derived.Test.YtbjhhkhhfjmnjaaInpT
import Derived.Test.YtbjhhkhhfjmnjaaInpO
import Derived.Test.YtbjhhkhhfjmnjaaLaw0
import Derived.Deep.DeepCutAuto
namespace Go.Proofs.Ytbjhhkhhfjmnjaa
open Go.RowKit Go.Sep Go.Inp

theorem Try.infoT : (Try.prog.info? 39).map (fun i => (i.zero, i.size, i.bytes)) = some (some (.agg #[.int .i64 0, .int .i64 0, .int .u16 0]), 3, 24) := by kernel_rfl
def tsl (ao : Option Addr) (n cap : Nat) (l : List T3) : Asn := slc 39 3 ao n cap (tv l)

set_option maxRecDepth 100000 in
theorem InputsAnyOrder_bad {w : World} {a b c : Option Addr} {m n k d e f : Nat} (h : 60 < m ∨ 60 < n) :
    Calls Try.prog 5 #[.slice a m d, .slice b n e, .slice c k f] w fun e w' => e = .returned (.bool true) ∧ Below w.heap.size w w' := by
  have S0 := Sat.start w
  by_cases h1 : 60 < m
  · go_enter Try.func5, Try.ntmps5
    go_wp2_with (go_at_call 7; refine (known12_any S0).mono ?_; rintro e w1 ⟨rfl, S1⟩)
    go_ret
    exact ⟨rfl, S1.below⟩
  have h2 : 60 < n := by omega
  clear h
  go_enter Try.func5, Try.ntmps5
  go_wp2_with (go_at_call 7; refine (known12_any S0).mono ?_; rintro e w1 ⟨rfl, S1⟩)
  go_ret
  exact ⟨rfl, S1.below⟩

def sliceLen : Value → Nat
  | .slice _ n _ => n
  | _ => 0
theorem u16_next {x : Int} (h : 0 ≤ x ∧ x < 65536) : IntKind.u16.wrap (x + 1) ≠ x := by
  rw [IntKind.wrap_u16]
  omega

set_option maxRecDepth 100000 in
set_option maxHeartbeats 3200000 in
theorem InputsAnyOrder_walk {w : World} {a b c : Option Addr} {m n np d e f : Nat} {xs ys zs : List Int}
    (hX : Rd w a (xs.map (Value.int .u16))) (hm : xs.length = m) (hY : Rd w b (ys.map (Value.int .u16))) (hn : ys.length = n) (hZ : Rd w c (zs.map (Value.int .i64))) (hnp : zs.length = np)
    (bx : ∀ x ∈ xs, 0 ≤ x ∧ x < 65536) (by' : ∀ x ∈ ys, 0 ≤ x ∧ x < 65536) :
    Calls Try.prog 5 #[.slice a m d, .slice b n e, .slice c np f] w fun e w' => e = .returned (.bool true) ∧ Below w.heap.size w w' := by
  by_cases hbad : 60 < m ∨ 60 < n
  · exact InputsAnyOrder_bad hbad
  have b1 : m ≤ 60 := by omega
  have b2 : n ≤ 60 := by omega
  clear hbad
  obtain ⟨i0, hi, hz0, hz1, hz2⟩ := info_parts Try.infoT
  have S0 := Sat.start w
  go_enter Try.func5, Try.ntmps5
  go_wp2_with (go_at_call 8; refine (new_any S0 60 (by omega) (by omega)).mono ?_; rintro e w1 ⟨p, rfl, S1⟩)
  go_loopw [9, 10] (fun v i wr => ∃ (k : Nat) (l : List T3) (ao : Option Addr) (cap : Nat), k ≤ m ∧ i = .int .i64 k ∧ v = .slice ao k cap ∧ Hid (l = rowT 0 xs k) ∧ Sat w wr (tsl ao k cap l :: Qu p (PQ.new 60) :: [])) (fun _ i _ => m - (intOf i).toNat)
  case atStart => exact ⟨0, [], none, 0, by omega, rfl, rfl, rfl, Sat.own_none.2 ⟨rfl, rfl, rfl, S1⟩⟩
  case round =>
    obtain ⟨k, l, ao, cap, hk, rfl, rfl, HL, S2⟩ := hrel
    by_cases hlt : k < m
    · obtain ⟨x, hx⟩ := at_some (show k < xs.length by omega)
      obtain ⟨ba, oa, rfl, ca⟩ := (hX.below S2.below) k _ (by rw [List.getElem?_map, hx]; rfl)
      go_wp2_with (at_builtin; refine wpList_append_sat rfl (.tmp 41) (.tmp 48) _ rfl 39 i0 (.agg #[.int .i64 0, .int .i64 0, .int .u16 0]) 3 24 Try.underlying34 hi hz0 hz1 hz2 rfl (by decide) (S2.alloc [.int .i64 0, .int .i64 k, .int .u16 x] 39).tail rfl rfl (Rd.lit (heap_alloc_new wr _)) rfl (tv_one [(0, (k : Int), x)]) (by unfold maxLen; omega) (by omega) ?_; intro ao1 cap1 w1 S3)
      go_roundw
      case rel =>
        refine ⟨k + 1, rowT 0 xs (k + 1), ao1, cap1, by omega, rfl, rfl, rfl, ?_⟩
        have e1 : tv l ++ [.int .i64 0, .int .i64 k, .int .u16 x] = tv (rowT 0 xs (k + 1)) := by rw [rowT_snoc, tv_append, ← HL.out, hx]; rfl
        unfold tsl
        rw [← e1]
        exact S3
      case measure => simp [intOf]; omega
    · have hkm : k = m := by omega
      subst hkm
      clear hlt hk
      go_wp2
      go_loopw [9, 11] (fun v i wr => ∃ (k2 : Nat) (l : List T3) (ao : Option Addr) (cap : Nat), k2 ≤ n ∧ i = .int .i64 k2 ∧ v = .slice ao (k + k2) cap ∧ Hid (l = rowT 0 xs k ++ rowT 1 ys k2) ∧ Sat w wr (tsl ao (k + k2) cap l :: Qu p (PQ.new 60) :: [])) (fun _ i _ => n - (intOf i).toNat)
      case atStart => exact ⟨0, l, ao, cap, by omega, rfl, rfl, by show l = rowT 0 xs k ++ []; rw [HL.out, List.append_nil], S2⟩
      case round =>
        obtain ⟨k2, l, ao, cap, hk2, rfl, rfl, HL, S2⟩ := hrel
        by_cases hlt : k2 < n
        · obtain ⟨x, hx⟩ := at_some (show k2 < ys.length by omega)
          obtain ⟨bb, ob, rfl, ca⟩ := (hY.below S2.below) k2 _ (by rw [List.getElem?_map, hx]; rfl)
          go_wp2_with (at_builtin; refine wpList_append_sat rfl (.tmp 56) (.tmp 63) _ rfl 39 i0 (.agg #[.int .i64 0, .int .i64 0, .int .u16 0]) 3 24 Try.underlying34 hi hz0 hz1 hz2 rfl (by decide) (S2.alloc [.int .i64 1, .int .i64 k2, .int .u16 x] 39).tail rfl rfl (Rd.lit (heap_alloc_new wr _)) rfl (tv_one [(1, (k2 : Int), x)]) (by unfold maxLen; omega) (by omega) ?_; intro ao1 cap1 w1 S3)
          go_roundw
          case rel =>
            refine ⟨k2 + 1, rowT 0 xs k ++ rowT 1 ys (k2 + 1), ao1, cap1, by omega, rfl, rfl, rfl, ?_⟩
            have e1 : tv l ++ [.int .i64 1, .int .i64 k2, .int .u16 x] = tv (rowT 0 xs k ++ rowT 1 ys (k2 + 1)) := by rw [rowT_snoc, ← List.append_assoc, tv_append, ← HL.out, hx]; rfl
            unfold tsl
            rw [← e1]
            exact S3
          case measure => simp [intOf]; omega
        · have hkn : k2 = n := by omega
          subst hkn
          clear hlt hk2
          go_wp2_with fail
          go_loopw [9, 12] (fun v i wr => ∃ (i3 : Nat) (l : List T3) (ao : Option Addr) (cap : Nat) (q : PQ), i3 + l.length = k + k2 ∧ i = .int .i64 i3 ∧ v = .slice ao l.length cap ∧ Ord xs ys l q ∧ Sat w wr (tsl ao l.length cap l :: Qu p q :: [])) (fun v _ _ => sliceLen v)
          case atStart =>
            have hl : l.length = k + k2 := by rw [HL.out, List.length_append, rowT_length, rowT_length]
            refine ⟨0, l, ao, cap, PQ.new 60, by omega, rfl, by rw [hl], ?_, by rw [hl]; exact S2⟩
            have := Ord.start xs ys
            unfold allT at this
            rw [hm, hn, ← HL.out] at this
            exact this
          case round =>
            clear S2 HL
            obtain ⟨i3, l, ao, cap, q, hil, rfl, rfl, HO, S5⟩ := hrel
            by_cases hpos : 0 < l.length
            · have hstep : ∀ kk, kk < l.length → ∃ j fr x, l[kk]? = some (j, fr, x) ∧ ∃ q', q.put j fr x = (0, q') ∧ q'.put j fr x = (8, q') ∧ q'.put j fr (IntKind.u16.wrap (x + 1)) = (18, q') ∧ q'.ok ∧ Ord xs ys (l.take kk ++ l.drop (kk + 1)) q' := by
                intro kk hkk
                obtain ⟨⟨j, fr, x⟩, hx⟩ := at_some hkk
                have hd : l = l.take kk ++ (j, fr, x) :: l.drop (kk + 1) := by
                  obtain ⟨h1, h2⟩ := List.getElem?_eq_some_iff.1 hx
                  rw [← h2, List.getElem_cons_drop, List.take_append_drop]
                have hmem : (j, fr, x) ∈ allT xs ys := HO.sub _ (List.mem_of_getElem? hx)
                have hxr : 0 ≤ x ∧ x < 65536 := by
                  rcases List.mem_append.1 hmem with h | h
                  · obtain ⟨i, hi', e⟩ := mem_rowT.1 h
                    simp only [Prod.mk.injEq] at e
                    rw [e.2.2, List.getElem?_eq_getElem hi']
                    exact bx _ (List.getElem_mem _)
                  · obtain ⟨i, hi', e⟩ := mem_rowT.1 h
                    simp only [Prod.mk.injEq] at e
                    rw [e.2.2, List.getElem?_eq_getElem hi']
                    exact by' _ (List.getElem_mem _)
                have HO2 := HO
                rw [hd] at HO2
                obtain ⟨q', p1, p2, p3, p4, p5⟩ := HO2.step (by omega) (by omega)
                exact ⟨j, fr, x, hx, q', p1, p2, p3 _ (u16_next hxr), p4, p5⟩
              have hZ5 := hZ.below S5.below
              go_upto_if 73 with fail
              go_cut [13] (fun v13 wx => wx = wr ∧ ∃ kk : Nat, v13 = .int .i64 kk ∧ kk < l.length)
              case first =>
                by_cases hp : i3 < np
                · obtain ⟨z, hz⟩ := at_some (show i3 < zs.length by omega)
                  obtain ⟨bc, oc, rfl, cc⟩ := hZ5 i3 _ (by rw [List.getElem?_map, hz]; rfl)
                  have e1 : bits .and .i64 z 65535 = z % 65536 := i64_mask z 65535 16 (by decide +kernel) (by decide)
                  obtain ⟨kk, hkk⟩ : ∃ kk : Nat, (z % 65536).tmod (l.length : Int) = (kk : Int) := ⟨((z % 65536).tmod (l.length : Int)).toNat, by rw [Int.tmod_eq_emod_of_nonneg (by omega)]; have := Int.emod_nonneg (z % 65536) (show (l.length : Int) ≠ 0 by omega); omega⟩
                  have hkl : kk < l.length := by
                    rw [Int.tmod_eq_emod_of_nonneg (by omega)] at hkk
                    have := Int.emod_lt_of_pos (z % 65536) (show (0 : Int) < (l.length : Int) by omega)
                    omega
                  go_wp2_with fail
                  go_meet
                  exact ⟨rfl, kk, rfl, hkl⟩
                · go_wp2_with fail
                  go_meet
                  exact ⟨rfl, 0, rfl, hpos⟩
              case rest =>
                obtain ⟨rfl, kk, rfl, hkl⟩ := hcut
                obtain ⟨j, fr, x, hx, q', hP1, hP2, hP3, hq', HO'⟩ := hstep kk hkl
                obtain ⟨bl, ol, rfl, c1, c2, c3⟩ := told_cells S5.own_rd hx
                obtain ⟨y, hy⟩ : ∃ y, IntKind.u16.wrap (x + 1) = y := ⟨_, rfl⟩
                rw [hy] at hP3
                have HP1 := Lib.hid hP1
                have HP2 := Lib.hid hP2
                have HP3 := Lib.hid hP3
                clear hP1 hP2 hP3 hstep
                have k0 : (0 : Int) ≤ (kk : Int) := Int.natCast_nonneg _
                have k1 : (kk : Int) < (l.length : Int) := by omega
                go_upto_region 21 with fail
                go_cut [140] (fun v140 wx => v140 = .bool false ∧ Sat w wx (Qu p q' :: tsl (some ⟨bl, ol, none⟩) l.length cap l :: []))
                case first =>
                  go_region_held3 (fun w' => w'.cell? ⟨bl, ol + kk * 3, none⟩ = some (.int .i64 j) ∧ w'.cell? ⟨bl, ol + kk * 3 + 1, none⟩ = some (.int .i64 fr) ∧ w'.cell? ⟨bl, ol + kk * 3 + 2, none⟩ = some (.int .u16 x))
                    (first
                      | go_keep
                      | exact told_here (S8.sel [1]).own_rd hx
                      | exact told_here (S7.sel [1]).own_rd hx
                      | exact told_here (S6.sel [1]).own_rd hx)
                    (first
                      | (go_at_call 9; refine (put_any S7 hq' j fr y).mono ?_; unfold Putted; rintro e w8 ⟨rfl, S8⟩; rw [HP3.out] at S8 ⊢)
                      | (go_at_call 9; refine (put_any S6 hq' j fr x).mono ?_; unfold Putted; rintro e w7 ⟨rfl, S7⟩; rw [HP2.out] at S7 ⊢)
                      | (go_at_call 9; refine (put_any S5.drew.swap HO.ok j fr x).mono ?_; unfold Putted; rintro e w6 ⟨rfl, S6⟩; rw [HP1.out] at S6 ⊢))
                  all_goals
                    go_wp2_with fail
                    go_meet
                    exact ⟨rfl, S8⟩
                case rest =>
                  obtain ⟨rfl, S9⟩ := hcut
                  clear S5 c1 c2 c3 HP1 HP2 HP3
                  have hlen := (S9.sel [1]).own_len
                  have hcap : l.length ≤ cap := hlen.2.1
                  have s1 : IntKind.i64.wrap ((kk : Int) + 1) = (kk : Int) + 1 := by rw [IntKind.wrap_i64]; omega
                  have s2 : 0 ≤ (kk : Int) + 1 := by omega
                  have s3 : ((kk : Int) + 1).toNat = kk + 1 := by omega
                  have s4 : (kk : Int) + 1 ≤ (l.length : Int) := by omega
                  have s5 : (kk : Int) ≤ (cap : Int) := by omega
                  have hl120 : l.length ≤ 120 := by omega
                  have SA : Sat w (wc.alloc (.cells #[] 39)) (slc 39 3 (some ⟨wc.heap.size, 0, none⟩) 0 0 [] :: Qu p q' :: tsl (some ⟨bl, ol, none⟩) l.length cap l :: []) :=
                    Sat.own_new (post := []) (S9.alloc [] 39) rfl (Nat.le_refl _) (by unfold maxLen; omega) (by simp)
                  have hT1 : Rd (wc.alloc (.cells #[] 39)).drew (some ⟨bl, ol, none⟩) (tv (l.take kk)) := by
                    rw [← tv_take]
                    exact ((SA.drew.sel [2]).own_rd).take (kk * 3)
                  have hT2 : ∀ w' L, Sat w w' (tsl (some ⟨bl, ol, none⟩) l.length cap l :: L) → Rd w' (if cap = kk + 1 then some ⟨bl, ol, none⟩ else some ⟨bl, ol + (kk + 1) * 3, none⟩) (tv (l.drop (kk + 1))) := by
                    intro w' L h
                    split
                    · rw [List.drop_of_length_le (by omega)]
                      exact Rd.nil _ _
                    · rw [← tv_drop]
                      exact h.own_rd.drop ((kk + 1) * 3)
                  go_wp2_with fail
                  go_region_law (first
                    | (refine step_append_sat rfl (.tmp 141) (.tmp 144) _ rfl 39 i0 (.agg #[.int .i64 0, .int .i64 0, .int .u16 0]) 3 24 Try.underlying34 hi hz0 hz1 hz2 rfl (by decide) SA.drew rfl rfl hT1 (by rw [tv_length, List.length_take, Nat.min_eq_left (by omega)]) (tv_one _) (by unfold maxLen; omega) (by omega) ?_; intro ao1 cap1 w1 S10; simp only [Nat.zero_add, List.nil_append] at S10 ⊢)
                    | (refine step_append_sat rfl (.tmp 145) (.tmp 149) _ rfl 39 i0 (.agg #[.int .i64 0, .int .i64 0, .int .u16 0]) 3 24 Try.underlying34 hi hz0 hz1 hz2 rfl (by decide) S10 rfl rfl (hT2 _ _ (S10.sel [2])) (by rw [tv_length, List.length_drop]) (tv_one _) (by unfold maxLen; omega) (by omega) ?_; intro ao2 cap2 w2 S11))
                  have hl2 : (l.take kk ++ l.drop (kk + 1)).length = kk + (l.length - (kk + 1)) := by rw [List.length_append, List.length_take, List.length_drop, Nat.min_eq_left (by omega)]
                  go_wp2
                  go_roundw
                  case rel =>
                    refine ⟨i3 + 1, l.take kk ++ l.drop (kk + 1), ao2, cap2, q', by omega, rfl, by rw [hl2], HO', ?_⟩
                    unfold tsl
                    rw [hl2, tv_append]
                    exact (S11.sel [2]).tail
                  case measure => show kk + (l.length - (kk + 1)) < l.length; omega
            · obtain rfl : l = [] := List.eq_nil_of_length_eq_zero (by omega)
              simp only [List.length_nil]
              obtain ⟨d0, d1, d2, d3⟩ := HO.done
              rw [hm, hn] at d2 d3
              rw [hm] at d0
              rw [hn] at d1
              have HD0 := Lib.hid d0
              have HD1 := Lib.hid d1
              have HD2 := Lib.hid d2
              have HD3 := Lib.hid d3
              have hqo := HO.ok
              clear d0 d1 d2 d3 HO hil hpos
              have S6 := S5.tail
              clear S5
              obtain ⟨ip, hip, hp0, hp1, hp2⟩ := info_parts Try.infoP
              go_wp2_with fail
              go_loopw [14, 15] (fun v i wr => ∃ (k4 : Nat) (l : List (Int × Int)) (ao : Option Addr) (cap : Nat), k4 ≤ min k k2 ∧ i = .int .i64 k4 ∧ v = .slice ao k4 cap ∧ Hid (l = wantT xs ys k4) ∧ Sat w wr (slc 48 2 ao k4 cap (pv l) :: Qu p q :: [])) (fun _ i _ => min k k2 - (intOf i).toNat)
              case atStart => exact ⟨0, [], none, 0, by omega, rfl, rfl, rfl, Sat.own_none.2 ⟨rfl, rfl, rfl, S6⟩⟩
              case round =>
                obtain ⟨k4, l, ao, cap, hk4, rfl, rfl, HL, S7⟩ := hrel
                by_cases hlt : k4 < k ∧ k4 < k2
                · obtain ⟨l1, l2⟩ := hlt
                  obtain ⟨x, hx⟩ := at_some (show k4 < xs.length by omega)
                  obtain ⟨y, hy⟩ := at_some (show k4 < ys.length by omega)
                  obtain ⟨ba, oa, rfl, ca⟩ := (hX.below S7.below) k4 _ (by rw [List.getElem?_map, hx]; rfl)
                  obtain ⟨bb, ob, rfl, cb⟩ := (hY.below S7.below) k4 _ (by rw [List.getElem?_map, hy]; rfl)
                  have k0 : (0 : Int) ≤ (k4 : Int) := Int.natCast_nonneg _
                  have k1 : (k4 : Int) < (k : Int) := by omega
                  have k3 : (k4 : Int) < (k2 : Int) := by omega
                  go_wp2_with fail
                  go_region_held3 (fun w' => w'.cell? ⟨ba, oa + k4, none⟩ = some (.int .u16 x) ∧ w'.cell? ⟨bb, ob + k4, none⟩ = some (.int .u16 y))
                    (first
                      | go_keep
                      | exact ⟨(hX.below S8.below).at (by rw [List.getElem?_map, hx]; rfl), (hY.below S8.below).at (by rw [List.getElem?_map, hy]; rfl)⟩)
                    ((refine step_append_sat rfl _ _ _ rfl 48 ip _ 2 4 Try.underlying44 hip hp0 hp1 hp2 rfl (by decide) (((S7.alloc [.int .u16 x, .int .u16 y] 48).tail).drew) rfl rfl (Rd.lit (heap_alloc_new wr _)) rfl (by simp [Value.oneCell']) (by unfold maxLen; omega) (by omega) ?_; intro ao' cap' w2 S8))
                  go_wp2
                  go_roundw
                  case rel =>
                    have e2 : pv l ++ [.int .u16 x, .int .u16 y] = pv (wantT xs ys (k4 + 1)) := by rw [wantT_snoc, pv_append, ← HL.out, hx, hy]; rfl
                    refine ⟨k4 + 1, wantT xs ys (k4 + 1), ao', cap', by omega, rfl, rfl, rfl, ?_⟩
                    rw [← e2]
                    exact S8
                  case measure => simp [intOf]; omega
                · have hk4m : k4 = min k k2 := by omega
                  have HK4 := Lib.hid hk4m
                  have hle : q.pairs.length = k4 := by rw [HD3.out, wantT_length, HK4.out]
                  have hW : l = q.pairs := by rw [HL.out, HK4.out, HD3.out]
                  have hpl : q.pairs.length ≤ 600 := by omega
                  have HLQ := Lib.hid hW
                  have HPL := Lib.hid hle
                  have S8 : Sat w wr (Qu p q :: slc 48 2 ao k4 cap (pv l) :: []) := S7.swap
                  clear hk4m hW S7 hle
                  by_cases hk1 : k4 < k
                  · have hk2' : ¬ k4 < k2 := fun h => hlt ⟨hk1, h⟩
                    clear hlt
                    go_wp2_with (first
                      | (go_at_call_of 14 (Value.int .i64 0); refine (known_any S8 0).mono ?_; rintro e w9 ⟨rfl, rfl⟩; rw [HD0.out])
                      | (go_at_call_of 14 (Value.int .i64 1); refine (known_any S8 1).mono ?_; rintro e w9 ⟨rfl, rfl⟩; rw [HD1.out])
                      | (go_at_call 16; refine (both_any S8).mono ?_; rintro e w9 ⟨rfl, rfl⟩; rw [HD2.out, ← HK4.out])
                      | (go_at_call 19; refine (pairs_any S8 hqo).mono ?_; unfold GivesP; rintro e w9 ⟨ao9, cap9, rfl, S9⟩; rw [HPL.out])
                      | (go_at_call 18; refine (pairs_same_n (l := q.pairs) HPL.out S9.own_rd (HLQ.out ▸ (S9.sel [2]).own_rd) hpl).mono ?_; rintro e w10 ⟨rfl, hq10⟩; have S10 := S9.quiet hq10; clear hq10)
                      | (go_at_call 7; refine (known12_any S10).mono ?_; rintro e w11 ⟨rfl, S11⟩))
                    go_ret
                    exact ⟨rfl, S11.below⟩
                  · clear hlt
                    go_wp2_with (first
                      | (go_at_call_of 14 (Value.int .i64 0); refine (known_any S8 0).mono ?_; rintro e w9 ⟨rfl, rfl⟩; rw [HD0.out])
                      | (go_at_call_of 14 (Value.int .i64 1); refine (known_any S8 1).mono ?_; rintro e w9 ⟨rfl, rfl⟩; rw [HD1.out])
                      | (go_at_call 16; refine (both_any S8).mono ?_; rintro e w9 ⟨rfl, rfl⟩; rw [HD2.out, ← HK4.out])
                      | (go_at_call 19; refine (pairs_any S8 hqo).mono ?_; unfold GivesP; rintro e w9 ⟨ao9, cap9, rfl, S9⟩; rw [HPL.out])
                      | (go_at_call 18; refine (pairs_same_n (l := q.pairs) HPL.out S9.own_rd (HLQ.out ▸ (S9.sel [2]).own_rd) hpl).mono ?_; rintro e w10 ⟨rfl, hq10⟩; have S10 := S9.quiet hq10; clear hq10)
                      | (go_at_call 7; refine (known12_any S10).mono ?_; rintro e w11 ⟨rfl, S11⟩))
                    go_ret
                    exact ⟨rfl, S11.below⟩
end Go.Proofs.Ytbjhhkhhfjmnjaa
