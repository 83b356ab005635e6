/-
  The law OctetLays, walked.
-/
import Derived.Test.YtbkieoblhacngaaFldR
import Derived.Test.YtbkieoblhacngaaLwNone
import Derived.Test.YtbkieoblhacngaaLwNums
import Derived.Deep.DeepCutAuto
import Derived.Deep.CutBlock
import Derived.Deep.RegionHeld3
namespace Go.Proofs.Ytbkieoblhacngaa
open Go.RowKit Go.Sep Go.Oct

def zF : List Value := [.int .i64 0, .int .i64 0, .slice none 0 0] ++ bv zeros32
theorem fcells_one (f : Fd) : ∀ u ∈ fcells f, u.oneCell' = true := by
  intro u hu
  simp only [fcells, List.mem_cons] at hu
  rcases hu with rfl | rfl | rfl | hu
  · rfl
  · rfl
  · rfl
  · exact bv_one _ u hu
theorem zF_alloc {W0 w : World} {L : List Asn} (S : Sat W0 w L) : Sat W0 (w.alloc (.cells #[.int .i64 0, .int .i64 0, .slice none 0 0, .int .u8 0, .int .u8 0, .int .u8 0, .int .u8 0, .int .u8 0, .int .u8 0, .int .u8 0, .int .u8 0, .int .u8 0, .int .u8 0, .int .u8 0, .int .u8 0, .int .u8 0, .int .u8 0, .int .u8 0, .int .u8 0, .int .u8 0, .int .u8 0, .int .u8 0, .int .u8 0, .int .u8 0, .int .u8 0, .int .u8 0, .int .u8 0, .int .u8 0, .int .u8 0, .int .u8 0, .int .u8 0, .int .u8 0, .int .u8 0, .int .u8 0, .int .u8 0] 44)) (blk w.heap.size zF 44 :: L) := S.alloc zF 44
theorem zF_length : zF.length = 35 := by simp [zF, zeros32_length]
theorem stored (cs : List Value) (_h : cs.length = 35) : zF.take 0 ++ cs ++ zF.drop (0 + 35) = cs := by
  rw [List.take_zero, List.nil_append, List.drop_of_length_le (by rw [zF_length]; omega), List.append_nil]

set_option maxRecDepth 100000 in
set_option maxHeartbeats 1600000 in
theorem OctetLays_walk {w : World} {a : Option Addr} {m c : Nat} {l : List Fd} (hR : Rd w a (fvs l)) (hm : l.length = m) (hg : ∀ f ∈ l, Good w f) (hmm : m ≤ maxLen) :
    Calls Try.prog 8 #[.slice a m c] w fun e w' => e = .returned (.bool true) ∧ Below w.heap.size w w' := by
  have S0 := Sat.start w
  cases hh : decide (3000 < hv 0 l) with
  | true =>
    have HH := Lib.hid hh
    clear hh
    go_enter Try.func8, Try.ntmps8
    go_wp2_with (go_at_call 21; refine (heavy_any hR hm hg hmm).mono ?_; rintro e w2 ⟨rfl, rfl⟩; rw [HH.out])
    go_ret
    exact ⟨rfl, S0.below⟩
  | false =>
    have hli := hv_light l 0 (by simpa using hh)
    obtain ⟨hs1, hs2⟩ := sumL_ge l
    have hl3 : ∀ f ∈ l, f.len ≤ 3000 := fun f hf => by have := hs2 f hf; omega
    have hm3 : m ≤ 300 := by omega
    have hbnd : ∀ k, (fbs (l.take k)).length ≤ 12600 := by
      intro k
      have h1 := fbs_length hg
      have h2 : (fbs l).length = (fbs (l.take k)).length + (fbs (l.drop k)).length := by
        rw [← List.length_append]
        unfold fbs
        rw [← List.flatten_append, ← List.map_append, List.take_append_drop]
      omega
    have HH := Lib.hid hh
    clear hh hli hs1 hs2
    have S1 := writer_new S0
    go_enter Try.func8, Try.ntmps8
    go_wp2_with (go_at_call 21; refine (heavy_any hR hm hg hmm).mono ?_; rintro e w2 ⟨rfl, rfl⟩; rw [HH.out])
    go_loopw [4, 5] (fun v i wr => ∃ (k : Nat) (bs : List Int) (ao : Option Addr) (cap : Nat), k ≤ m ∧ i = .int .i64 k ∧ v = .slice ao bs.length cap ∧ Hid (bs = fbs (l.take k)) ∧ bs.length ≤ 12600 ∧ Sat w wr (Wr w.heap.size bs :: sbs ao bs.length cap bs :: [])) (fun _ i _ => m - (intOf i).toNat)
    case atStart => exact ⟨0, [], none, 0, by omega, rfl, rfl, rfl, by simp, (Sat.own_none.2 ⟨rfl, rfl, rfl, S1⟩).swap⟩
    case round =>
      obtain ⟨k, bs, ao, cap, hk, rfl, rfl, HB, hb, S2⟩ := hrel
      by_cases hlt : k < m
      · obtain ⟨f, hf⟩ : ∃ f, l[k]? = some f := ⟨l[k], List.getElem?_eq_getElem (by omega)⟩
        have hgf := hg f (List.mem_of_getElem? hf)
        have hlf := hl3 f (List.mem_of_getElem? hf)
        have hl35 := fcells_length hgf
        have hone := fcells_one f
        have q0 : (fcells f)[0]? = some (.int .i64 f.kind) := rfl
        have q1 : (fcells f)[1]? = some (.int .i64 f.n) := rfl
        have q2 : (fcells f)[2]? = some (.slice f.ao f.len f.cap) := rfl
        obtain ⟨b, off, rfl, hc⟩ := fvs_cells (hR.below S2.below) (fun f hf => (hg f hf).below S2.below) hf
        have SZ := zF_alloc S2
        have hst := stored (fcells f) hl35
        generalize hcs : fcells f = cs at hl35 hone q0 q1 q2 hc hst
        have HCS := Lib.hid hcs
        clear hcs
        go_upto_block 2 with (first
          | (refine wpList_load_part rfl 44 _ rfl (n := 35) rfl hc hl35 Try.underlying44 rfl Try.sizeF ?_)
          | (refine wpList_store_sat rfl 44 _ _ rfl SZ rfl rfl hl35 (by rw [zF_length]; omega) Try.sizeF hone ?_; intro w1 S3; rw [hst] at S3; have c0 := (S3.cell 0 rfl 0).trans q0; have c1 := (S3.cell 0 rfl 1).trans q1; have c2 := (S3.cell 0 rfl 2).trans q2)
          | (go_at_call 9; refine (roomy_any S3 (fun w' h => hgf.rd.below h.below) hgf.len (by omega)).mono ?_; rintro e w2 ⟨ad, cap2, rfl, S4⟩; have c0 := (S4.cell 1 rfl 0).trans q0))
        go_cut [7] (fun v7 wx => v7 = .slice (some ad) (f.len + 1) cap2 ∧ Sat w wx (Wr w.heap.size (bs ++ fb f) :: sbs (some ad) (f.len + 1) cap2 (f.bs ++ [171]) :: blk wr.heap.size cs 44 :: sbs ao bs.length cap bs :: []))
        case first =>
          have S6 := S4.sel [2]
          have c1 := (S4.cell 1 rfl 1).trans q1
          have c2 := (S4.cell 1 rfl 2).trans q2
          have hn := hgf.n
          have hol := S4.own_len
          by_cases k1 : f.kind = 1
          · have e1 : (f.kind == 1) = true := by simpa using k1
            have HF : Hid (fb f = [f.n % 256]) := by show _ = _; unfold fb; rw [if_pos k1]
            clear k1
            go_wp2_with (go_at_call 30; refine (wByte_any S6 (f.n % 256) (by omega)).mono ?_; rintro e w3 ⟨rfl, S7⟩)
            go_meet
            exact ⟨rfl, by rw [HF.out]; exact S7⟩
          by_cases k2 : f.kind = 2
          · have e2 : (f.kind == 2) = true := by simpa using k2
            have n1 : (f.kind == 1) = false := by simpa using k1
            have HF : Hid (fb f = [f.n % 65536 % 256, f.n % 65536 / 256]) := by show _ = _; unfold fb; rw [if_neg k1, if_pos k2]
            clear k1 k2
            go_wp2_with (go_at_call 31; refine (wTwo_any S6 (f.n % 65536) (by omega) (by omega) (by omega)).mono ?_; rintro e w3 ⟨rfl, S7⟩)
            go_meet
            exact ⟨rfl, by rw [HF.out]; exact S7⟩
          by_cases k3 : f.kind = 3
          · have e3 : (f.kind == 3) = true := by simpa using k3
            have n1 : (f.kind == 1) = false := by simpa using k1
            have n2 : (f.kind == 2) = false := by simpa using k2
            have HF : Hid (fb f = [f.n % 4294967296 % 256, f.n % 4294967296 / 256 % 256, f.n % 4294967296 / 65536 % 256, f.n % 4294967296 / 16777216]) := by show _ = _; unfold fb; rw [if_neg k1, if_neg k2, if_pos k3]
            clear k1 k2 k3
            go_wp2_with (go_at_call 32; refine (wFour_any S6 (f.n % 4294967296) (by omega) (by omega) (by omega)).mono ?_; rintro e w3 ⟨rfl, S7⟩)
            go_meet
            exact ⟨rfl, by rw [HF.out]; exact S7⟩
          by_cases k4 : f.kind = 4
          · have e4 : (f.kind == 4) = true := by simpa using k4
            have n1 : (f.kind == 1) = false := by simpa using k1
            have n2 : (f.kind == 2) = false := by simpa using k2
            have n3 : (f.kind == 3) = false := by simpa using k3
            have HF : Hid (fb f = num f.n) := by show _ = _; unfold fb; rw [if_neg k1, if_neg k2, if_neg k3, if_pos k4]
            clear k1 k2 k3 k4
            go_wp2_with (go_at_call 14; refine (wNum_any S6 f.n hn.1 hn.2 (by omega)).mono ?_; rintro e w3 ⟨rfl, S7⟩)
            go_meet
            exact ⟨rfl, by rw [HF.out]; exact S7⟩
          by_cases k5 : f.kind = 5
          · have e5 : (f.kind == 5) = true := by simpa using k5
            have n1 : (f.kind == 1) = false := by simpa using k1
            have n2 : (f.kind == 2) = false := by simpa using k2
            have n3 : (f.kind == 3) = false := by simpa using k3
            have n4 : (f.kind == 4) = false := by simpa using k4
            have HF : Hid (fb f = num f.bs.length ++ f.bs) := by show _ = _; unfold fb; rw [if_neg k1, if_neg k2, if_neg k3, if_neg k4, if_pos k5]
            clear k1 k2 k3 k4 k5
            go_wp2_with (go_at_call 22; refine (wBytes_any S6 (xs := f.bs) (fun w' h => rd_prefix h.own_rd) hgf.len (by omega)).mono ?_; rintro e w3 ⟨rfl, S7⟩; rw [List.append_assoc] at S7)
            go_meet
            exact ⟨rfl, by rw [HF.out]; exact S7⟩
          have HF : Hid (fb f = f.h) := by show _ = _; unfold fb; rw [if_neg k1, if_neg k2, if_neg k3, if_neg k4, if_neg k5]
          have n1 : (f.kind == 1) = false := by simpa using k1
          have n2 : (f.kind == 2) = false := by simpa using k2
          have n3 : (f.kind == 3) = false := by simpa using k3
          have n4 : (f.kind == 4) = false := by simpa using k4
          have n5 : (f.kind == 5) = false := by simpa using k5
          have k3' : (cs.drop 3).take 32 = bv f.h := by
            rw [← HCS.out]
            show (bv f.h).take 32 = _
            rw [List.take_of_length_le (by simp [bv, hgf.h])]
          clear k1 k2 k3 k4 k5
          go_wp2_with (first
            | (refine wpList_load_part rfl 42 _ rfl (n := 32) rfl ((S4.sel [1]).part 3 32) (by simp [hl35]) Try.underlying42 rfl Try.sizeH ?_; rw [k3'])
            | (go_at_call 33; refine (wHash_any S6 f.h hgf.h (by omega)).mono ?_; rintro e w3 ⟨rfl, S7⟩))
          go_meet
          exact ⟨rfl, by rw [HF.out]; exact S7⟩
        case rest =>
          obtain ⟨rfl, S5⟩ := hcut
          have c2 := (S5.cell 2 rfl 2).trans q2
          have hol := (S5.sel [1]).own_len
          have hfl := fb_length hgf
          have hbk := hbnd (k + 1)
          obtain ⟨i0, hi, hz0, hz1, hz2⟩ := info_parts Try.infoB
          go_wp2_with (first
            | (go_at_call 12; refine (stands_any (xs := f.bs) (S5.sel [1]).own_rd (hgf.rd.below S5.below) (by have := hgf.len; omega) hgf.len (by omega) (by omega)).mono ?_; rintro e w6 ⟨rfl, hq⟩; have S6 := S5.quiet hq; clear hq)
            | (go_at_call 34; refine (spoil_any (S6.sel [1]) (by omega)).mono ?_; rintro e w7 ⟨rfl, S7⟩)
            | (refine wpList_load_part rfl 44 _ rfl (n := 35) rfl ((S7.sel [1]).part 0 35) (by simp [hl35]) Try.underlying44 rfl Try.sizeF ?_; rw [List.drop_zero, List.take_of_length_le (by omega), ← HCS.out])
            | (go_at_call 25; refine (bytes_any S7 hgf hlf).mono ?_; unfold GivesB; rintro e w8 ⟨ao8, cap8, rfl, S8⟩)
            | (at_builtin; refine wpList_append_sat rfl (.tmp 71) (.tmp 73) _ rfl 5 i0 (.int .u8 0) 1 1 Try.underlying22 hi hz0 hz1 hz2 rfl (by decide) (S8.sel [3]) rfl rfl S8.own_rd (by simp [bv_length]) (bv_one _) (by unfold maxLen; omega) (by omega) ?_; intro ao9 cap9 w9 S9; rw [← bv_append] at S9))
          go_roundw
          case rel =>
            have e1 : fbs (l.take (k + 1)) = fbs (l.take k) ++ fb f := by rw [List.take_add_one, hf, fbs_append_one]
            refine ⟨k + 1, bs ++ fb f, ao9, cap9, by omega, rfl, by rw [List.length_append], by show _ = _; rw [e1, HB.out], by rw [HB.out, ← e1]; exact hbk, ?_⟩
            have S10 := (((S9.sel [1]).tail).sel [2]).tail.swap
            unfold sbs
            rw [List.length_append]
            exact S10
          case measure => simp [intOf]; omega
      · have HB2 : Hid (bs = fbs l) := by show _ = _; rw [HB.out, List.take_of_length_le (by omega)]
        clear HB
        go_wp2_with (first
          | (go_at_call 16; refine (newReader_any S8 (sbs_rd (S8.sel [3])).1 rfl (fun h => ((S8.sel [3]).own_len.2.2.2 h).2) (by omega)).mono ?_; rintro e w9 ⟨p2, rfl, S9⟩)
          | (go_at_call 17; refine (same_any (sbs_rd S7).1 (sbs_rd (S7.sel [3])).1 rfl rfl (by omega) (by omega)).mono ?_; rintro e w8 ⟨rfl, hq⟩; rw [decide_eq_true rfl]; have S8 := S7.quiet hq; clear hq)
          | (go_at_call 15; refine (out_any (S6.sel [1]) (by omega)).mono ?_; rintro e w7 ⟨ao7, cap7, rfl, S7⟩)
          | (go_at_call 34; refine (spoil_any (S5.sel [1]) (by omega)).mono ?_; rintro e w6 ⟨rfl, S6⟩)
          | (go_at_call 16; refine (newReader_any S4 (sbs_rd S4).1 rfl (fun h => (S4.own_len.2.2.2 h).2) (by omega)).mono ?_; rintro e w5 ⟨p, rfl, S5⟩)
          | (go_at_call 17; refine (same_any (sbs_rd S3).1 (sbs_rd (S3.sel [2])).1 rfl rfl (by omega) (by omega)).mono ?_; rintro e w4 ⟨rfl, hq⟩; rw [decide_eq_true rfl]; have S4 := S3.quiet hq; clear hq)
          | (go_at_call 15; refine (out_any S2 (by omega)).mono ?_; rintro e w3 ⟨ao3, cap3, rfl, S3⟩))
        have HD0 : Hid (bs = fbs (l.drop 0)) := HB2.out
        have S10 := S9.sel [0]
        go_loopw [10] (fun i wr => ∃ (k : Nat) (bs : List Int), k ≤ m ∧ i = .int .i64 k ∧ Hid (bs = fbs (l.drop k)) ∧ Sat w wr (Rr p2 bs 0 :: [])) (fun i _ => m - (intOf i).toNat)
        case atStart => exact ⟨0, bs, by omega, rfl, HD0, S10.map (fun h hh => ⟨fun _ => true, star_left hh, True.intro⟩)⟩
        case round =>
          obtain ⟨k2, bs2, hk2, rfl, HB2, S10⟩ := hrel
          by_cases hlt2 : k2 < m
          · obtain ⟨f, hf⟩ : ∃ f, l[k2]? = some f := ⟨l[k2], List.getElem?_eq_getElem (by omega)⟩
            have hgf := hg f (List.mem_of_getElem? hf)
            have hlf := hl3 f (List.mem_of_getElem? hf)
            have hl35 := fcells_length hgf
            have hone := fcells_one f
            have q0 : (fcells f)[0]? = some (.int .i64 f.kind) := rfl
            have q1 : (fcells f)[1]? = some (.int .i64 f.n) := rfl
            have q2 : (fcells f)[2]? = some (.slice f.ao f.len f.cap) := rfl
            obtain ⟨b, off, rfl, hc⟩ := fvs_cells (hR.below S10.below) (fun f hf => (hg f hf).below S10.below) hf
            have hbs : bs2 = fb f ++ fbs (l.drop (k2 + 1)) := by
              rw [HB2.out, ← fbs_cons, fbs_drop hf]
            have hBy : Bytes (fb f ++ fbs (l.drop (k2 + 1))) := (fb_bytes hgf hlf).append (fbs_bytes (fun f hf => hg f (List.mem_of_mem_drop hf)) (fun f hf => hl3 f (List.mem_of_mem_drop hf)))
            rw [hbs] at S10
            clear hbs HB2
            have SZ := zF_alloc S10
            have hst := stored (fcells f) hl35
            have hhash : (fcells f).drop 3 = bv f.h := rfl
            generalize hcs : fcells f = cs at hl35 hone q0 q1 q2 hc hst hhash
            have HCS := Lib.hid hcs
            clear hcs
            have hn := hgf.n
            have HH3 := Lib.hid hhash
            clear hhash
            by_cases kk1 : f.kind = 1
            · have e1 : (f.kind == 1) = true := by simpa using kk1
              have b1 : (f.n % 256 == IntKind.u8.wrap f.n) = true := by rw [IntKind.wrap_u8]; exact beq_self_eq_true _
              have T1 := Lib.hid (rd_one kk1 (fbs (l.drop (k2 + 1)))).1
              have T2 := Lib.hid (rd_one kk1 (fbs (l.drop (k2 + 1)))).2
              clear kk1
              go_wp2_with (first
                | (refine wpList_load_part rfl 44 _ rfl (n := 35) rfl hc hl35 Try.underlying44 rfl Try.sizeF ?_)
                | (refine wpList_store_sat rfl 44 _ _ rfl SZ rfl rfl hl35 (by rw [zF_length]; omega) Try.sizeF hone ?_; intro w1 S3; rw [hst] at S3; have c0 := (S3.cell 0 rfl 0).trans q0; have c1 := (S3.cell 0 rfl 1).trans q1; have c2 := (S3.cell 0 rfl 2).trans q2)
                )
              generalize hy : wr.heap.size = y at *
              clear hy
              go_region_held3 (fun w' => w'.cell? ⟨y, 1, none⟩ = some (.int .i64 f.n))
                (first
                  | go_keep
                  | exact (S6.cell 1 rfl 1).trans q1)
                (first
                  | (go_at_call 26; refine (rByte_any S3.drew.swap hBy).mono ?_; rintro e w5 ⟨rfl, S6⟩; rw [T1.out] at S6 ⊢; rw [T2.out]))
              go_wp2_with fail
              exact ⟨⟨k2 + 1, fbs (l.drop (k2 + 1)), by omega, by go_num, rfl, ((S6.sel [1]).tail)⟩, by simp [intOf]; omega⟩
            by_cases kk2 : f.kind = 2
            · have e2 : (f.kind == 2) = true := by simpa using kk2
              have n1 : (f.kind == 1) = false := by simpa using kk1
              have b1 : (f.n % 65536 == IntKind.u16.wrap f.n) = true := by rw [IntKind.wrap_u16]; exact beq_self_eq_true _
              have T1 := Lib.hid (rd_two kk2 (fbs (l.drop (k2 + 1)))).1
              have T2 := Lib.hid (rd_two kk2 (fbs (l.drop (k2 + 1)))).2
              clear kk1 kk2
              go_wp2_with (first
                | (refine wpList_load_part rfl 44 _ rfl (n := 35) rfl hc hl35 Try.underlying44 rfl Try.sizeF ?_)
                | (refine wpList_store_sat rfl 44 _ _ rfl SZ rfl rfl hl35 (by rw [zF_length]; omega) Try.sizeF hone ?_; intro w1 S3; rw [hst] at S3; have c0 := (S3.cell 0 rfl 0).trans q0; have c1 := (S3.cell 0 rfl 1).trans q1; have c2 := (S3.cell 0 rfl 2).trans q2)
                )
              generalize hy : wr.heap.size = y at *
              clear hy
              go_region_held3 (fun w' => w'.cell? ⟨y, 1, none⟩ = some (.int .i64 f.n))
                (first
                  | go_keep
                  | exact (S6.cell 1 rfl 1).trans q1)
                (first
                  | (go_at_call 27; refine (rTwo_any S3.drew.swap hBy).mono ?_; rintro e w5 ⟨rfl, S6⟩; rw [T1.out] at S6 ⊢; rw [T2.out]))
              go_wp2_with fail
              exact ⟨⟨k2 + 1, fbs (l.drop (k2 + 1)), by omega, by go_num, rfl, ((S6.sel [1]).tail)⟩, by simp [intOf]; omega⟩
            by_cases kk3 : f.kind = 3
            · have e3 : (f.kind == 3) = true := by simpa using kk3
              have n1 : (f.kind == 1) = false := by simpa using kk1
              have n2 : (f.kind == 2) = false := by simpa using kk2
              have b1 : (f.n % 4294967296 == IntKind.u32.wrap f.n) = true := by rw [IntKind.wrap_u32]; exact beq_self_eq_true _
              obtain ⟨a4, t1, t2⟩ := rd_four kk3 (fbs (l.drop (k2 + 1)))
              have T1 := Lib.hid t1
              have T2 := Lib.hid t2
              clear t1 t2
              clear kk1 kk2 kk3
              go_wp2_with (first
                | (refine wpList_load_part rfl 44 _ rfl (n := 35) rfl hc hl35 Try.underlying44 rfl Try.sizeF ?_)
                | (refine wpList_store_sat rfl 44 _ _ rfl SZ rfl rfl hl35 (by rw [zF_length]; omega) Try.sizeF hone ?_; intro w1 S3; rw [hst] at S3; have c0 := (S3.cell 0 rfl 0).trans q0; have c1 := (S3.cell 0 rfl 1).trans q1; have c2 := (S3.cell 0 rfl 2).trans q2)
                )
              generalize hy : wr.heap.size = y at *
              clear hy
              go_region_held3 (fun w' => w'.cell? ⟨y, 1, none⟩ = some (.int .i64 f.n))
                (first
                  | go_keep
                  | exact (S6.cell 1 rfl 1).trans q1)
                (first
                  | (go_at_call 28; refine (rFour_any S3.drew.swap hBy).mono ?_; rintro e w5 ⟨rfl, S6⟩; rw [T1.out] at S6 ⊢; rw [T2.out]))
              go_wp2_with fail
              exact ⟨⟨k2 + 1, fbs (l.drop (k2 + 1)), by omega, by go_num, rfl, ((S6.sel [1]).tail)⟩, by simp [intOf]; omega⟩
            by_cases kk4 : f.kind = 4
            · have e4 : (f.kind == 4) = true := by simpa using kk4
              have n1 : (f.kind == 1) = false := by simpa using kk1
              have n2 : (f.kind == 2) = false := by simpa using kk2
              have n3 : (f.kind == 3) = false := by simpa using kk3
              have T1 := Lib.hid (rd_num hgf kk4 (fbs (l.drop (k2 + 1))))
              clear kk1 kk2 kk3 kk4
              go_wp2_with (first
                | (refine wpList_load_part rfl 44 _ rfl (n := 35) rfl hc hl35 Try.underlying44 rfl Try.sizeF ?_)
                | (refine wpList_store_sat rfl 44 _ _ rfl SZ rfl rfl hl35 (by rw [zF_length]; omega) Try.sizeF hone ?_; intro w1 S3; rw [hst] at S3; have c0 := (S3.cell 0 rfl 0).trans q0; have c1 := (S3.cell 0 rfl 1).trans q1; have c2 := (S3.cell 0 rfl 2).trans q2)
                )
              generalize hy : wr.heap.size = y at *
              clear hy
              go_region_held3 (fun w' => w'.cell? ⟨y, 1, none⟩ = some (.int .i64 f.n))
                (first
                  | go_keep
                  | exact (S6.cell 1 rfl 1).trans q1)
                (first
                  | (go_at_call 19; refine (rNum_any S3.drew.swap hBy).mono ?_; unfold Nummed; rintro e w5 ⟨rfl, S6⟩; rw [T1.out] at S6 ⊢))
              go_wp2_with fail
              exact ⟨⟨k2 + 1, fbs (l.drop (k2 + 1)), by omega, by go_num, rfl, ((S6.sel [1]).tail)⟩, by simp [intOf]; omega⟩
            by_cases kk5 : f.kind = 5
            · have e5 : (f.kind == 5) = true := by simpa using kk5
              have n1 : (f.kind == 1) = false := by simpa using kk1
              have n2 : (f.kind == 2) = false := by simpa using kk2
              have n3 : (f.kind == 3) = false := by simpa using kk3
              have n4 : (f.kind == 4) = false := by simpa using kk4
              have T1 := Lib.hid (rd_bytes hgf hlf kk5 (fbs (l.drop (k2 + 1))))
              clear kk1 kk2 kk3 kk4 kk5
              go_wp2_with (first
                | (refine wpList_load_part rfl 44 _ rfl (n := 35) rfl hc hl35 Try.underlying44 rfl Try.sizeF ?_)
                | (refine wpList_store_sat rfl 44 _ _ rfl SZ rfl rfl hl35 (by rw [zF_length]; omega) Try.sizeF hone ?_; intro w1 S3; rw [hst] at S3; have c0 := (S3.cell 0 rfl 0).trans q0; have c1 := (S3.cell 0 rfl 1).trans q1; have c2 := (S3.cell 0 rfl 2).trans q2)
                )
              generalize hy : wr.heap.size = y at *
              clear hy
              go_region_held3 (fun w' => w'.cell? ⟨y, 2, none⟩ = some (.slice f.ao f.len f.cap))
                (first
                  | go_keep
                  | exact (S6.cell 1 rfl 2).trans q2
                  | exact (S5.cell 2 rfl 2).trans q2)
                (first
                  | (go_at_call 17; refine (same_any (sbs_rd S5).1 (hgf.rd.below S5.below) rfl hgf.len (by have := hgf.len; omega) (by omega)).mono ?_; rintro e w6 ⟨rfl, hq⟩; rw [decide_eq_true rfl]; have S6 := S5.tail.quiet hq; clear hq)
                  | (go_at_call 23; refine (rBytes_any S3.drew.swap hBy).mono ?_; unfold Bytesd; rintro e w5 ⟨ao5, cap5, xs5, HX5, rfl, S5⟩; rw [T1.out] at S5 HX5; obtain rfl : xs5 = f.bs := HX5.out; clear HX5))
              go_wp2_with fail
              exact ⟨⟨k2 + 1, fbs (l.drop (k2 + 1)), by omega, by go_num, rfl, ((S6.sel [1]).tail)⟩, by simp [intOf]; omega⟩
            have n1 : (f.kind == 1) = false := by simpa using kk1
            have n2 : (f.kind == 2) = false := by simpa using kk2
            have n3 : (f.kind == 3) = false := by simpa using kk3
            have n4 : (f.kind == 4) = false := by simpa using kk4
            have n5 : (f.kind == 5) = false := by simpa using kk5
            have T1 := Lib.hid (rd_hash hgf kk1 kk2 kk3 kk4 kk5 (fbs (l.drop (k2 + 1))))
            clear kk1 kk2 kk3 kk4 kk5
            have hq := fun w => eql_hash w f.h hgf.h
            have hgd := Try.noGuardH
            have k3' : (cs.drop 3).take 32 = bv f.h := by
              rw [HH3.out, List.take_of_length_le (by simp [bv, hgf.h])]
            go_wp2_with (first
                | (refine wpList_load_part rfl 44 _ rfl (n := 35) rfl hc hl35 Try.underlying44 rfl Try.sizeF ?_)
                | (refine wpList_store_sat rfl 44 _ _ rfl SZ rfl rfl hl35 (by rw [zF_length]; omega) Try.sizeF hone ?_; intro w1 S3; rw [hst] at S3; have c0 := (S3.cell 0 rfl 0).trans q0; have c1 := (S3.cell 0 rfl 1).trans q1; have c2 := (S3.cell 0 rfl 2).trans q2)
                )
            have uH := Try.underlying42
            have iH : (Try.prog.info? 42).map (·.size) = some (bv f.h).length := by rw [bv_length, hgf.h]; exact Try.sizeH
            have hrg : ∀ w' L, Sat w w' (blk wr.heap.size cs 44 :: L) → w'.rangeAt wr.heap.size 3 (bv f.h) := by
              intro w' L S j v hj
              rw [S.cell 0 rfl, ← List.getElem?_drop, HH3.out]
              exact hj
            have HRG := Lib.hid hrg
            clear hrg
            generalize hy : wr.heap.size = y at *
            clear hy
            have hh0 := HRG.out _ _ S3.drew
            go_region_held3 (fun w' => w'.rangeAt y 3 (bv f.h))
                (first
                  | go_keep
                  | exact HRG.out _ _ S3.drew
                  | exact HRG.out _ _ (S6.sel [1]))
                (first
                  | (go_at_call 29; refine (rHash_any S3.drew.swap).mono ?_; unfold Hashed; rintro e w5 ⟨rfl, S6⟩; rw [T1.out] at S6 ⊢))
            all_goals
              go_wp2_with fail
              exact ⟨⟨k2 + 1, fbs (l.drop (k2 + 1)), by omega, by go_num, rfl, ((S6.sel [1]).tail)⟩, by simp [intOf]; omega⟩
          · have HE : Hid (bs2 = []) := by show _ = _; rw [HB2.out, List.drop_of_length_le (by omega)]; rfl
            rw [HE.out] at S10
            go_wp2_with (first
              | (go_at_call 20; refine (left_any S10).mono ?_; rintro e w11 ⟨rfl, rfl⟩)
              | (go_at_call 24; refine (end_any S10).mono ?_; rintro e w11 ⟨rfl, rfl⟩; rw [show endOf [] 0 = 0 from rfl])
              | (go_at_call 13; refine (known_any S10).mono ?_; rintro e w11 ⟨rfl, S11⟩))
            go_ret
            exact ⟨rfl, S11.below⟩
end Go.Proofs.Ytbkieoblhacngaa
