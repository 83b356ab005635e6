/-
  The law OctetCuts, walked.
-/
import Derived.Test.YtbkieoblhacngaaCutP
import Derived.Deep.RegionWith
namespace Go.Proofs.Ytbkieoblhacngaa
open Go.RowKit Go.Sep Go.Oct
set_option linter.unusedSimpArgs false

theorem Try.infoI : (Try.prog.info? 3).map (fun i => (i.zero, i.size, i.bytes)) = some (some (.int .i64 0), 1, 8) := by kernel_rfl
/-- where the fields end -/
def ev (l : List Fd) (k : Nat) : List Value := (List.range k).map fun i => .int .i64 ((fbs (l.take (i + 1))).length : Nat)
theorem ev_succ (l : List Fd) (k : Nat) : ev l (k + 1) = ev l k ++ [.int .i64 ((fbs (l.take (k + 1))).length : Nat)] := by simp [ev, List.range_succ]
theorem ev_length (l : List Fd) (k : Nat) : (ev l k).length = k := by simp [ev]
theorem ev_at (l : List Fd) {m k : Nat} (h : k < m) : (ev l m)[k]? = some (.int .i64 ((fbs (l.take (k + 1))).length : Nat)) := by
  simp [ev, List.getElem?_range h]

theorem eql_any (w : World) (xs ys : List Int) (hx : xs.length = 32) (hy : ys.length = 32) : (binOp .eql 42 (.agg (bv xs).toArray) (.agg (bv ys).toArray)).run Try.prog w = .ok (.bool (decide (xs = ys))) w := by
  obtain ⟨iu, hi, _, _, _⟩ := info_parts Try.infoB
  exact run_eql_ints w xs ys Try.underlying42 hi Try.underlying5 (by kernel_rfl) hx hy

set_option maxRecDepth 100000 in
set_option maxHeartbeats 3200000 in
theorem OctetCuts_walk {w : World} {a : Option Addr} {m c : Nat} {l : List Fd} (hR : Rd w a (fvs l)) (hm : l.length = m) (hg : ∀ f ∈ l, Good w f) (hmm : m ≤ maxLen) (at_ : Int) :
    Calls Try.prog 6 #[.slice a m c, .int .i64 at_] w fun e w' => e = .returned (.bool true) ∧ Below w.heap.size w w' := by
  have S0 := Sat.start w
  cases hh : decide (3000 < hv 0 l) with
  | true =>
    have HH := Lib.hid hh
    clear hh
    go_enter Try.func6, Try.ntmps6
    go_wp2_with (go_at_call 21; refine (heavy_any hR hm hg hmm).mono ?_; rintro e w2 ⟨rfl, rfl⟩; rw [HH.out])
    go_ret
    exact ⟨rfl, S0.below⟩
  | false =>
    have hli := hv_light l 0 (by simpa using hh)
    obtain ⟨hs1, hs2⟩ := sumL_ge l
    have hl3 : ∀ f ∈ l, f.len ≤ 3000 := fun f hf => by have := hs2 f hf; omega
    have hm3 : m ≤ 300 := by omega
    have hbnd : ∀ k, (fbs (l.take k)).length ≤ 12600 := by
      intro k
      have h1 := fbs_length hg
      have h2 : (fbs l).length = (fbs (l.take k)).length + (fbs (l.drop k)).length := by
        rw [← List.length_append]
        unfold fbs
        rw [← List.flatten_append, ← List.map_append, List.take_append_drop]
      omega
    have HH := Lib.hid hh
    clear hh hli hs1 hs2
    obtain ⟨i0, hi, hz0, hz1, hz2⟩ := info_parts Try.infoB
    obtain ⟨j0, hj, jz0, jz1, jz2⟩ := info_parts Try.infoI
    go_enter Try.func6, Try.ntmps6
    go_wp2_with (go_at_call 21; refine (heavy_any hR hm hg hmm).mono ?_; rintro e w2 ⟨rfl, rfl⟩; rw [HH.out])
    go_loopw [5, 6, 7] (fun v u i wr => ∃ (k : Nat) (bs : List Int) (ao : Option Addr) (cap : Nat) (ae : Option Addr) (cae : Nat), k ≤ m ∧ i = .int .i64 k ∧ v = .slice ao bs.length cap ∧ u = .slice ae k cae ∧ Hid (bs = fbs (l.take k)) ∧ bs.length ≤ 12600 ∧ Sat w wr (sbs ao bs.length cap bs :: slc 3 1 ae k cae (ev l k) :: [])) (fun _ _ i _ => m - (intOf i).toNat)
    case atStart => exact ⟨0, [], none, 0, none, 0, by omega, rfl, rfl, rfl, rfl, by simp, Sat.own_none.2 ⟨rfl, rfl, rfl, Sat.own_none.2 ⟨rfl, rfl, rfl, S0⟩⟩⟩
    case round =>
      obtain ⟨k, bs, ao, cap, ae, cae, hk, rfl, rfl, rfl, HB, hb, S2⟩ := hrel
      by_cases hlt : k < m
      · obtain ⟨f, hf⟩ : ∃ f, l[k]? = some f := ⟨l[k], List.getElem?_eq_getElem (by omega)⟩
        have hgf := hg f (List.mem_of_getElem? hf)
        have hlf := hl3 f (List.mem_of_getElem? hf)
        have hl35 := fcells_length hgf
        obtain ⟨b, off, rfl, hc⟩ := fvs_cells (hR.below S2.below) (fun f hf => (hg f hf).below S2.below) hf
        have hfl := fb_length hgf
        have hbk := hbnd (k + 1)
        have e1 := fbs_take hf
        have HE1 := Lib.hid e1
        have HF := Lib.hid hf
        clear hf e1
        go_wp2_with (first
          | (refine wpList_load_part rfl 44 _ rfl (n := 35) rfl hc hl35 Try.underlying44 rfl Try.sizeF ?_)
          | (go_at_call 25; refine (bytes_any S2 hgf hlf).mono ?_; unfold GivesB; rintro e w8 ⟨ao8, cap8, rfl, S8⟩)
          | (at_builtin; refine wpList_append_sat rfl (.tmp 21) (.tmp 26) _ rfl 5 i0 (.int .u8 0) 1 1 Try.underlying22 hi hz0 hz1 hz2 rfl (by decide) (S8.sel [1]) rfl rfl S8.own_rd (by simp [bv_length]) (bv_one _) (by unfold maxLen; omega) (by omega) ?_; intro ao9 cap9 w9 S9; rw [← bv_append] at S9)
          | (at_builtin; refine wpList_append_sat rfl (.tmp 28) (.tmp 31) _ rfl 3 j0 (.int .i64 0) 1 8 Try.underlying48 hj jz0 jz1 jz2 rfl (by decide) ((S9.alloc [.int .i64 ((bs.length + (fb f).length : Nat) : Int)] 3).sel [3]) rfl rfl (Rd.lit (heap_alloc_new w9 _)) rfl (by simp [Value.oneCell']) (by unfold maxLen; omega) (by omega) ?_; intro ao10 cap10 w10 S10))
        go_roundw
        case rel =>
          refine ⟨k + 1, bs ++ fb f, ao9, cap9, ao10, cap10, by omega, rfl, by rw [List.length_append], rfl, by show _ = _; rw [HE1.out, HB.out], by rw [HB.out, ← HE1.out]; exact hbk, ?_⟩
          have S11 := satTwo (S10.sel [2, 0])
          have e3 : (bs.length : Int) + ((fb f).length : Int) = ((fbs (l.take (k + 1))).length : Nat) := by rw [HE1.out, HB.out, List.length_append]; rfl
          rw [e3, ← ev_succ] at S11
          unfold sbs
          rw [List.length_append]
          exact S11
        case measure => simp [intOf]; omega
      · have hkm : k = m := by omega
        have hbl : bs = fbs l := by rw [HB.out, List.take_of_length_le (by omega)]
        have HBL := Lib.hid hbl
        subst hkm
        clear hbl HB
        by_cases hz : bs.length = 0
        · have hz' : ((bs.length : Int) == 0) = true := by rw [beq_iff_eq]; omega
          go_wp2_with (go_at_call 13; refine (known_any S2).mono ?_; rintro e w11 ⟨rfl, S11⟩)
          go_ret
          exact ⟨rfl, S11.below⟩
        · have hz' : ((bs.length : Int) == 0) = false := by rw [beq_eq_false_iff_ne]; omega
          obtain ⟨q, hq⟩ : ∃ q : Nat, bits .and .i64 at_ 1073741823 = (q : Int) := ⟨(at_ % 1073741824).toNat, by rw [i64_and30]; omega⟩
          obtain ⟨cut, hcut⟩ : ∃ cut : Nat, (q : Int) % (bs.length : Int) = (cut : Int) := ⟨q % bs.length, by omega⟩
          have hcl : cut < bs.length := by
            have := Int.emod_lt_of_pos (q : Int) (b := (bs.length : Int)) (by omega)
            omega
          have hR2 := ((sbs_rd S2).1).take cut
          have hR3 : Rd wr ao (bv (bs.take cut)) := by
            intro j u hj
            refine hR2 j u ?_
            simpa [bv, List.map_take] using hj
          have hcap2 := (sbs_rd S2).2.2
          go_wp2_with (go_at_call 16; refine (newReader_any S2 hR3 (by rw [List.length_take]; omega) hcap2.2 (by omega)).mono ?_; rintro e w5 ⟨p, rfl, S3⟩)
          have hi0 : CutInv cut l 0 (bs.take cut) 0 := .inl ⟨by simp [fbs], by rw [HBL.out]; simp [fbs], rfl⟩
          have HI0 := Lib.hid hi0
          have hBl : Bytes bs := by rw [HBL.out]; exact fbs_bytes hg hl3
          have hB0 : Bytes (bs.take cut) := hBl.take cut
          clear hi0 hR2 hR3 hz
          have HG := Lib.hid (fun (w' : World) (h : Below w.heap.size w w') (k : Nat) (f : Fd) (hk : l[k]? = some f) => fvs_cells (hR.below h) (fun f hf => (hg f hf).below h) hk)
          go_loopw [10] (fun i wr => ∃ (k2 : Nat) (bs2 : List Int) (e2 : Int), k2 ≤ k ∧ i = .int .i64 k2 ∧ Hid (CutInv cut l k2 bs2 e2) ∧ Bytes bs2 ∧ Sat w wr (Rr p bs2 e2 :: sbs ao bs.length cap bs :: slc 3 1 ae k cae (ev l k) :: [])) (fun i _ => k - (intOf i).toNat)
          case atStart => exact ⟨0, bs.take cut, 0, by omega, rfl, HI0, hB0, S3⟩
          case round =>
            clear S0 S2 S3
            obtain ⟨k2, bs2, e2, hk2, rfl, HI2, hB2, S4⟩ := hrel
            by_cases hlt2 : k2 < k
            · cases ae with
              | none => have := (Sat.own_none.1 (S4.sel [2])).1; omega
              | some ad =>
                obtain ⟨be, oe, rfl⟩ := (S4.sel [2]).own_addr
                obtain ⟨f, hf⟩ : ∃ f, l[k2]? = some f := ⟨l[k2]'(by omega), List.getElem?_eq_getElem _⟩
                have hgf := hg f (List.mem_of_getElem? hf)
                have hlf := hl3 f (List.mem_of_getElem? hf)
                obtain ⟨ce, _⟩ := (S4.sel [2]).own_cell (i := k2) (ev_at l hlt2)
                have hstep := cut_step HI2.out hf
                obtain ⟨en, hen⟩ : ∃ en, (fbs (l.take (k2 + 1))).length = en := ⟨_, rfl⟩
                rw [hen] at ce hstep
                clear hen
                obtain ⟨b, off, rfl, hc⟩ := HG.out _ S4.below _ _ hf
                have HC : Hid (∀ w', Below w.heap.size w w' → ∀ j, j < 35 → w'.cell? ⟨b, off + k2 * 35 + j, none⟩ = (fcells f)[j]?) := by
                  intro w' h j hj
                  obtain ⟨_, _, h1, h2⟩ := HG.out _ h _ _ hf
                  cases h1
                  exact h2 j hj
                have c0 := HC.out _ S4.below 0 (by omega)
                rw [Nat.add_zero] at c0
                rw [show (fcells f)[0]? = some (.int .i64 f.kind) from rfl] at c0
                have HC1 : Hid (∀ w', Below w.heap.size w w' → w'.cell? ⟨b, off + k2 * 35 + 1, none⟩ = some (.int .i64 f.n)) := fun w' h => HC.out w' h 1 (by omega)
                have HC2 : Hid (∀ w', Below w.heap.size w w' → w'.cell? ⟨b, off + k2 * 35 + 2, none⟩ = some (.slice f.ao f.len f.cap)) := fun w' h => HC.out w' h 2 (by omega)
                have HC3 : Hid (∀ w', Below w.heap.size w w' → w'.rangeAt b (off + k2 * 35 + 3) (bv f.h)) := by
                  intro w' h j v hj
                  have hj32 : j < 32 := by
                    have := (List.getElem?_eq_some_iff.1 hj).1
                    rw [bv_length, hgf.h] at this; exact this
                  rw [Nat.add_assoc, HC.out w' h (3 + j) (by omega), show (fcells f)[3 + j]? = (bv f.h)[j]? by rw [Nat.add_comm]; rfl]
                  exact hj
                have hn := hgf.n
                have k0 : (0 : Int) ≤ (k2 : Int) := Int.natCast_nonneg _
                have k1 : (k2 : Int) < (k : Int) := by omega
                have hl12 : (rdNum bs2 e2).1 = (rdNum bs2 e2).1 := rfl
                clear hf hc hl12
                by_cases kk1 : f.kind = 1
                · have e1 : (f.kind == 1) = true := by simpa using kk1
                  rcases hstep with ⟨hW, r, rfl, rfl, hN⟩ | ⟨hW, hD, hN⟩
                  · have T1 := Lib.hid (rd_one kk1 r).1
                    have T2 := Lib.hid (rd_one kk1 r).2
                    have b1 : (f.n % 256 == IntKind.u8.wrap f.n) = true := by rw [IntKind.wrap_u8]; exact beq_self_eq_true _
                    have HN := Lib.hid hN
                    have hBr : Bytes r := fun x hx => hB2 x (by simp [hx])
                    clear kk1 hN HI2
                    go_wp2_with fail
                    refine wp_region_held_drew (S := fun w' => w'.cell? ⟨b, off + k2 * 35 + 1, none⟩ = some (.int .i64 f.n)) (by kernel_rfl) (HC1.out _ S4.drew.below) (fun hHeld => ?_)
                    first
                      | (refine wpAnyH_take (i := 0) (v := ?_) rfl (by kernel_rfl) (by kernel_rfl) (by kernel_rfl) (fun _ _ _ h => h) (Or.inl ⟨by rfl, ?_⟩) (by assumption) ?_
                         rotate_left
                         · (intro w hSw; (try dsimp only at hSw); first | (go_simp; done) | (go_simp; with_reducible rfl))
                         (try simp only [Act.put, List.setIfInBounds_toArray, List.set_cons_zero, List.set_cons_succ]))
                      | fail
                    first
                      | (refine wpAnyH_take (i := 2) (v := ?_) rfl (by kernel_rfl) (by kernel_rfl) (by kernel_rfl) (fun _ _ _ h => h) (Or.inl ⟨by rfl, ?_⟩) (by assumption) ?_
                         rotate_left
                         · (intro w hSw; (try dsimp only at hSw); first | (go_simp; done) | (go_simp; with_reducible rfl))
                         (try simp only [Act.put, List.setIfInBounds_toArray, List.set_cons_zero, List.set_cons_succ]))
                      | fail
                    first
                      | (refine wpAnyH_take (i := 3) (v := ?_) rfl (by kernel_rfl) (by kernel_rfl) (by kernel_rfl) (fun _ _ _ h => h) (Or.inl ⟨by rfl, ?_⟩) (by assumption) ?_
                         rotate_left
                         · (intro w hSw; (try dsimp only at hSw); first | (go_simp; done) | (go_simp; with_reducible rfl))
                         (try simp only [Act.put, List.setIfInBounds_toArray, List.set_cons_zero, List.set_cons_succ]))
                      | fail
                    first
                      | (refine wpAnyH_take (i := 4) (v := ?_) rfl (by kernel_rfl) (by kernel_rfl) (by kernel_rfl) (fun _ _ _ h => h) (Or.inl ⟨by rfl, ?_⟩) (by assumption) ?_
                         rotate_left
                         · (intro w hSw; (try dsimp only at hSw); first | (go_simp; done) | (go_simp; with_reducible rfl))
                         (try simp only [Act.put, List.setIfInBounds_toArray, List.set_cons_zero, List.set_cons_succ]))
                      | fail
                    first
                      | (refine wpAnyH_take (i := 5) (v := ?_) rfl (by kernel_rfl) (by kernel_rfl) (by kernel_rfl) (fun _ _ _ h => h) (Or.inl ⟨by rfl, ?_⟩) (by assumption) ?_
                         rotate_left
                         · (intro w hSw; (try dsimp only at hSw); first | (go_simp; done) | (go_simp; with_reducible rfl))
                         (try simp only [Act.put, List.setIfInBounds_toArray, List.set_cons_zero, List.set_cons_succ]))
                      | fail
                    first
                      | (refine wpAnyH_take (i := 6) (v := ?_) rfl (by kernel_rfl) (by kernel_rfl) (by kernel_rfl) (fun _ _ _ h => h) (Or.inl ⟨by rfl, ?_⟩) (by assumption) ?_
                         rotate_left
                         · (intro w hSw; (try dsimp only at hSw); first | (go_simp; done) | (go_simp; with_reducible rfl))
                         (try simp only [Act.put, List.setIfInBounds_toArray, List.set_cons_zero, List.set_cons_succ]))
                      | fail
                    first
                      | (refine wpAnyH_take (i := 7) (v := ?_) rfl (by kernel_rfl) (by kernel_rfl) (by kernel_rfl) (fun _ _ _ h => h) (Or.inl ⟨by rfl, ?_⟩) (by assumption) ?_
                         rotate_left
                         · (intro w hSw; (try dsimp only at hSw); first | (go_simp; done) | (go_simp; with_reducible rfl))
                         (try simp only [Act.put, List.setIfInBounds_toArray, List.set_cons_zero, List.set_cons_succ]))
                      | fail
                    refine wpAnyH_ready (rs := [1]) (by kernel_rfl) (by simp) ?_
                    refine AllReadyH.cons rfl (fun K hK => ?_) AllReadyH.nil
                    go_simp
                    go_at_call 26
                    refine (rByte_any S4.drew hB2).mono ?_
                    rintro e w5 ⟨rfl, S6⟩
                    rw [T1.out] at S6 ⊢
                    rw [T2.out]
                    go_wp2_with fail
                    refine hK.out _ _ (HC1.out _ S6.below) (fun hHeld2 => ?_)
                    clear hK K hHeld
                    try simp only [Act.put, List.setIfInBounds_toArray, List.set_cons_zero, List.set_cons_succ]
                    first
                      | (refine wpAnyH_take (i := 8) (v := ?_) rfl (by kernel_rfl) (by kernel_rfl) (by kernel_rfl) (fun _ _ _ h => h) (Or.inl ⟨by rfl, ?_⟩) (by assumption) ?_
                         rotate_left
                         · (intro w hSw; (try dsimp only at hSw); first | (go_simp; done) | (go_simp; with_reducible rfl))
                         (try simp only [Act.put, List.setIfInBounds_toArray, List.set_cons_zero, List.set_cons_succ]))
                      | fail
                    first
                      | (refine wpAnyH_take (i := 9) (v := ?_) rfl (by kernel_rfl) (by kernel_rfl) (by kernel_rfl) (fun _ _ _ h => h) (Or.inl ⟨by rfl, ?_⟩) (by assumption) ?_
                         rotate_left
                         · (intro w hSw; (try dsimp only at hSw); first | (go_simp; done) | (go_simp; with_reducible rfl))
                         (try simp only [Act.put, List.setIfInBounds_toArray, List.set_cons_zero, List.set_cons_succ]))
                      | fail
                    first
                      | (refine wpAnyH_take (i := 10) (v := undef) rfl (by kernel_rfl) (by kernel_rfl) (by kernel_rfl) (fun _ _ _ h => h) (Or.inr ⟨by rfl, rfl⟩) (by assumption) ?_
                         (try simp only [Act.put, List.setIfInBounds_toArray, List.set_cons_zero, List.set_cons_succ]))
                      | fail
                    first
                      | (refine wpAnyH_take (i := 11) (v := undef) rfl (by kernel_rfl) (by kernel_rfl) (by kernel_rfl) (fun _ _ _ h => h) (Or.inr ⟨by rfl, rfl⟩) (by assumption) ?_
                         (try simp only [Act.put, List.setIfInBounds_toArray, List.set_cons_zero, List.set_cons_succ]))
                      | fail
                    first
                      | (refine wpAnyH_take (i := 12) (v := ?_) rfl (by kernel_rfl) (by kernel_rfl) (by kernel_rfl) (fun _ _ _ h => h) (Or.inl ⟨by rfl, ?_⟩) (by assumption) ?_
                         rotate_left
                         · (intro w hSw; (try dsimp only at hSw); first | (go_simp; done) | (go_simp; with_reducible rfl))
                         (try simp only [Act.put, List.setIfInBounds_toArray, List.set_cons_zero, List.set_cons_succ]))
                      | fail
                    first
                      | (refine wpAnyH_take (i := 13) (v := ?_) rfl (by kernel_rfl) (by kernel_rfl) (by kernel_rfl) (fun _ _ _ h => h) (Or.inl ⟨by rfl, ?_⟩) (by assumption) ?_
                         rotate_left
                         · (intro w hSw; (try dsimp only at hSw); first | (go_simp; done) | (go_simp; with_reducible rfl))
                         (try simp only [Act.put, List.setIfInBounds_toArray, List.set_cons_zero, List.set_cons_succ]))
                      | fail
                    refine wpAnyH_done (by kernel_rfl) ?_ _
                    go_wp2_with fail
                    exact ⟨⟨k2 + 1, r, 0, by omega, by go_num, HN, hBr, S6⟩, by simp [intOf]; omega⟩
                  · have T1 := Lib.hid (dead_one hD kk1)
                    have T2 : Hid (le [] = 0) := rfl
                    have HN := Lib.hid hN
                    have hBn : Bytes [] := fun x hx => by simp at hx
                    have hc0 := HC1.out _ S4.drew.below
                    clear kk1 hN HI2 hD
                    cases hbb : ((0 : Int) == IntKind.u8.wrap f.n)
                    · go_wp2_with fail
                      go_region_held3 (fun w' => w'.cell? ⟨b, off + k2 * 35 + 1, none⟩ = some (.int .i64 f.n))
                        (first
                          | go_keep
                          | exact HC1.out _ S4.drew.below
                          | exact HC1.out _ S6.below)
                        (first
                          | (go_at_call 26; refine (rByte_any S4.drew hB2).mono ?_; rintro e w5 ⟨rfl, S6⟩; rw [T1.out] at S6 ⊢; rw [T2.out]))
                      go_wp2_with fail
                      exact ⟨⟨k2 + 1, [], 2, by omega, by go_num, HN, hBn, S6⟩, by simp [intOf]; omega⟩
                    · go_wp2_with fail
                      refine wp_region_held_drew (S := fun w' => w'.cell? ⟨b, off + k2 * 35 + 1, none⟩ = some (.int .i64 f.n)) (by kernel_rfl) (HC1.out _ S4.drew.below) (fun hHeld => ?_)
                      first
                        | (refine wpAnyH_take (i := 0) (v := ?_) rfl (by kernel_rfl) (by kernel_rfl) (by kernel_rfl) (fun _ _ _ h => h) (Or.inl ⟨by rfl, ?_⟩) (by assumption) ?_
                           rotate_left
                           · (intro w hSw; (try dsimp only at hSw); first | (go_simp; done) | (go_simp; with_reducible rfl))
                           (try simp only [Act.put, List.setIfInBounds_toArray, List.set_cons_zero, List.set_cons_succ]))
                        | fail
                      first
                        | (refine wpAnyH_take (i := 2) (v := ?_) rfl (by kernel_rfl) (by kernel_rfl) (by kernel_rfl) (fun _ _ _ h => h) (Or.inl ⟨by rfl, ?_⟩) (by assumption) ?_
                           rotate_left
                           · (intro w hSw; (try dsimp only at hSw); first | (go_simp; done) | (go_simp; with_reducible rfl))
                           (try simp only [Act.put, List.setIfInBounds_toArray, List.set_cons_zero, List.set_cons_succ]))
                        | fail
                      first
                        | (refine wpAnyH_take (i := 3) (v := ?_) rfl (by kernel_rfl) (by kernel_rfl) (by kernel_rfl) (fun _ _ _ h => h) (Or.inl ⟨by rfl, ?_⟩) (by assumption) ?_
                           rotate_left
                           · (intro w hSw; (try dsimp only at hSw); first | (go_simp; done) | (go_simp; with_reducible rfl))
                           (try simp only [Act.put, List.setIfInBounds_toArray, List.set_cons_zero, List.set_cons_succ]))
                        | fail
                      first
                        | (refine wpAnyH_take (i := 4) (v := ?_) rfl (by kernel_rfl) (by kernel_rfl) (by kernel_rfl) (fun _ _ _ h => h) (Or.inl ⟨by rfl, ?_⟩) (by assumption) ?_
                           rotate_left
                           · (intro w hSw; (try dsimp only at hSw); first | (go_simp; done) | (go_simp; with_reducible rfl))
                           (try simp only [Act.put, List.setIfInBounds_toArray, List.set_cons_zero, List.set_cons_succ]))
                        | fail
                      first
                        | (refine wpAnyH_take (i := 5) (v := ?_) rfl (by kernel_rfl) (by kernel_rfl) (by kernel_rfl) (fun _ _ _ h => h) (Or.inl ⟨by rfl, ?_⟩) (by assumption) ?_
                           rotate_left
                           · (intro w hSw; (try dsimp only at hSw); first | (go_simp; done) | (go_simp; with_reducible rfl))
                           (try simp only [Act.put, List.setIfInBounds_toArray, List.set_cons_zero, List.set_cons_succ]))
                        | fail
                      first
                        | (refine wpAnyH_take (i := 6) (v := ?_) rfl (by kernel_rfl) (by kernel_rfl) (by kernel_rfl) (fun _ _ _ h => h) (Or.inl ⟨by rfl, ?_⟩) (by assumption) ?_
                           rotate_left
                           · (intro w hSw; (try dsimp only at hSw); first | (go_simp; done) | (go_simp; with_reducible rfl))
                           (try simp only [Act.put, List.setIfInBounds_toArray, List.set_cons_zero, List.set_cons_succ]))
                        | fail
                      first
                        | (refine wpAnyH_take (i := 7) (v := ?_) rfl (by kernel_rfl) (by kernel_rfl) (by kernel_rfl) (fun _ _ _ h => h) (Or.inl ⟨by rfl, ?_⟩) (by assumption) ?_
                           rotate_left
                           · (intro w hSw; (try dsimp only at hSw); first | (go_simp; done) | (go_simp; with_reducible rfl))
                           (try simp only [Act.put, List.setIfInBounds_toArray, List.set_cons_zero, List.set_cons_succ]))
                        | fail
                      refine wpAnyH_ready (rs := [1]) (by kernel_rfl) (by simp) ?_
                      refine AllReadyH.cons rfl (fun K hK => ?_) AllReadyH.nil
                      go_simp
                      go_at_call 26
                      refine (rByte_any S4.drew hB2).mono ?_
                      rintro e w5 ⟨rfl, S6⟩
                      rw [T1.out] at S6 ⊢
                      rw [T2.out]
                      go_wp2_with fail
                      refine hK.out _ _ (HC1.out _ S6.below) (fun hHeld2 => ?_)
                      clear hK K hHeld
                      try simp only [Act.put, List.setIfInBounds_toArray, List.set_cons_zero, List.set_cons_succ]
                      first
                        | (refine wpAnyH_take (i := 8) (v := ?_) rfl (by kernel_rfl) (by kernel_rfl) (by kernel_rfl) (fun _ _ _ h => h) (Or.inl ⟨by rfl, ?_⟩) (by assumption) ?_
                           rotate_left
                           · (intro w hSw; (try dsimp only at hSw); first | (go_simp; done) | (go_simp; with_reducible rfl))
                           (try simp only [Act.put, List.setIfInBounds_toArray, List.set_cons_zero, List.set_cons_succ]))
                        | fail
                      first
                        | (refine wpAnyH_take (i := 9) (v := ?_) rfl (by kernel_rfl) (by kernel_rfl) (by kernel_rfl) (fun _ _ _ h => h) (Or.inl ⟨by rfl, ?_⟩) (by assumption) ?_
                           rotate_left
                           · (intro w hSw; (try dsimp only at hSw); first | (go_simp; done) | (go_simp; with_reducible rfl))
                           (try simp only [Act.put, List.setIfInBounds_toArray, List.set_cons_zero, List.set_cons_succ]))
                        | fail
                      first
                        | (refine wpAnyH_take (i := 10) (v := undef) rfl (by kernel_rfl) (by kernel_rfl) (by kernel_rfl) (fun _ _ _ h => h) (Or.inr ⟨by rfl, rfl⟩) (by assumption) ?_
                           (try simp only [Act.put, List.setIfInBounds_toArray, List.set_cons_zero, List.set_cons_succ]))
                        | fail
                      first
                        | (refine wpAnyH_take (i := 11) (v := undef) rfl (by kernel_rfl) (by kernel_rfl) (by kernel_rfl) (fun _ _ _ h => h) (Or.inr ⟨by rfl, rfl⟩) (by assumption) ?_
                           (try simp only [Act.put, List.setIfInBounds_toArray, List.set_cons_zero, List.set_cons_succ]))
                        | fail
                      first
                        | (refine wpAnyH_take (i := 12) (v := ?_) rfl (by kernel_rfl) (by kernel_rfl) (by kernel_rfl) (fun _ _ _ h => h) (Or.inl ⟨by rfl, ?_⟩) (by assumption) ?_
                           rotate_left
                           · (intro w hSw; (try dsimp only at hSw); first | (go_simp; done) | (go_simp; with_reducible rfl))
                           (try simp only [Act.put, List.setIfInBounds_toArray, List.set_cons_zero, List.set_cons_succ]))
                        | fail
                      first
                        | (refine wpAnyH_take (i := 13) (v := ?_) rfl (by kernel_rfl) (by kernel_rfl) (by kernel_rfl) (fun _ _ _ h => h) (Or.inl ⟨by rfl, ?_⟩) (by assumption) ?_
                           rotate_left
                           · (intro w hSw; (try dsimp only at hSw); first | (go_simp; done) | (go_simp; with_reducible rfl))
                           (try simp only [Act.put, List.setIfInBounds_toArray, List.set_cons_zero, List.set_cons_succ]))
                        | fail
                      refine wpAnyH_done (by kernel_rfl) ?_ _
                      go_wp2_with fail
                      exact ⟨⟨k2 + 1, [], 2, by omega, by go_num, HN, hBn, S6⟩, by simp [intOf]; omega⟩
                by_cases kk2 : f.kind = 2
                · have e2 : (f.kind == 2) = true := by simpa using kk2
                  have n1 : (f.kind == 1) = false := by simpa using kk1
                  rcases hstep with ⟨hW, r, rfl, rfl, hN⟩ | ⟨hW, hD, hN⟩
                  · have T1 := Lib.hid (rd_two kk2 r).1
                    have T2 := Lib.hid (rd_two kk2 r).2
                    have b1 : (f.n % 65536 == IntKind.u16.wrap f.n) = true := by rw [IntKind.wrap_u16]; exact beq_self_eq_true _
                    have HN := Lib.hid hN
                    have hBr : Bytes r := fun x hx => hB2 x (by simp [hx])
                    clear kk1 kk2 hN HI2
                    go_wp2_with fail
                    refine wp_region_held_drew (S := fun w' => w'.cell? ⟨b, off + k2 * 35 + 1, none⟩ = some (.int .i64 f.n)) (by kernel_rfl) (HC1.out _ S4.drew.below) (fun hHeld => ?_)
                    first
                      | (refine wpAnyH_take (i := 0) (v := ?_) rfl (by kernel_rfl) (by kernel_rfl) (by kernel_rfl) (fun _ _ _ h => h) (Or.inl ⟨by rfl, ?_⟩) (by assumption) ?_
                         rotate_left
                         · (intro w hSw; (try dsimp only at hSw); first | (go_simp; done) | (go_simp; with_reducible rfl))
                         (try simp only [Act.put, List.setIfInBounds_toArray, List.set_cons_zero, List.set_cons_succ]))
                      | fail
                    first
                      | (refine wpAnyH_take (i := 2) (v := ?_) rfl (by kernel_rfl) (by kernel_rfl) (by kernel_rfl) (fun _ _ _ h => h) (Or.inl ⟨by rfl, ?_⟩) (by assumption) ?_
                         rotate_left
                         · (intro w hSw; (try dsimp only at hSw); first | (go_simp; done) | (go_simp; with_reducible rfl))
                         (try simp only [Act.put, List.setIfInBounds_toArray, List.set_cons_zero, List.set_cons_succ]))
                      | fail
                    first
                      | (refine wpAnyH_take (i := 3) (v := ?_) rfl (by kernel_rfl) (by kernel_rfl) (by kernel_rfl) (fun _ _ _ h => h) (Or.inl ⟨by rfl, ?_⟩) (by assumption) ?_
                         rotate_left
                         · (intro w hSw; (try dsimp only at hSw); first | (go_simp; done) | (go_simp; with_reducible rfl))
                         (try simp only [Act.put, List.setIfInBounds_toArray, List.set_cons_zero, List.set_cons_succ]))
                      | fail
                    first
                      | (refine wpAnyH_take (i := 4) (v := ?_) rfl (by kernel_rfl) (by kernel_rfl) (by kernel_rfl) (fun _ _ _ h => h) (Or.inl ⟨by rfl, ?_⟩) (by assumption) ?_
                         rotate_left
                         · (intro w hSw; (try dsimp only at hSw); first | (go_simp; done) | (go_simp; with_reducible rfl))
                         (try simp only [Act.put, List.setIfInBounds_toArray, List.set_cons_zero, List.set_cons_succ]))
                      | fail
                    first
                      | (refine wpAnyH_take (i := 5) (v := ?_) rfl (by kernel_rfl) (by kernel_rfl) (by kernel_rfl) (fun _ _ _ h => h) (Or.inl ⟨by rfl, ?_⟩) (by assumption) ?_
                         rotate_left
                         · (intro w hSw; (try dsimp only at hSw); first | (go_simp; done) | (go_simp; with_reducible rfl))
                         (try simp only [Act.put, List.setIfInBounds_toArray, List.set_cons_zero, List.set_cons_succ]))
                      | fail
                    first
                      | (refine wpAnyH_take (i := 6) (v := ?_) rfl (by kernel_rfl) (by kernel_rfl) (by kernel_rfl) (fun _ _ _ h => h) (Or.inl ⟨by rfl, ?_⟩) (by assumption) ?_
                         rotate_left
                         · (intro w hSw; (try dsimp only at hSw); first | (go_simp; done) | (go_simp; with_reducible rfl))
                         (try simp only [Act.put, List.setIfInBounds_toArray, List.set_cons_zero, List.set_cons_succ]))
                      | fail
                    first
                      | (refine wpAnyH_take (i := 7) (v := ?_) rfl (by kernel_rfl) (by kernel_rfl) (by kernel_rfl) (fun _ _ _ h => h) (Or.inl ⟨by rfl, ?_⟩) (by assumption) ?_
                         rotate_left
                         · (intro w hSw; (try dsimp only at hSw); first | (go_simp; done) | (go_simp; with_reducible rfl))
                         (try simp only [Act.put, List.setIfInBounds_toArray, List.set_cons_zero, List.set_cons_succ]))
                      | fail
                    refine wpAnyH_ready (rs := [1]) (by kernel_rfl) (by simp) ?_
                    refine AllReadyH.cons rfl (fun K hK => ?_) AllReadyH.nil
                    go_simp
                    go_at_call 27
                    refine (rTwo_any S4.drew hB2).mono ?_
                    rintro e w5 ⟨rfl, S6⟩
                    rw [T1.out] at S6 ⊢
                    rw [T2.out]
                    go_wp2_with fail
                    refine hK.out _ _ (HC1.out _ S6.below) (fun hHeld2 => ?_)
                    clear hK K hHeld
                    try simp only [Act.put, List.setIfInBounds_toArray, List.set_cons_zero, List.set_cons_succ]
                    first
                      | (refine wpAnyH_take (i := 8) (v := ?_) rfl (by kernel_rfl) (by kernel_rfl) (by kernel_rfl) (fun _ _ _ h => h) (Or.inl ⟨by rfl, ?_⟩) (by assumption) ?_
                         rotate_left
                         · (intro w hSw; (try dsimp only at hSw); first | (go_simp; done) | (go_simp; with_reducible rfl))
                         (try simp only [Act.put, List.setIfInBounds_toArray, List.set_cons_zero, List.set_cons_succ]))
                      | fail
                    first
                      | (refine wpAnyH_take (i := 9) (v := ?_) rfl (by kernel_rfl) (by kernel_rfl) (by kernel_rfl) (fun _ _ _ h => h) (Or.inl ⟨by rfl, ?_⟩) (by assumption) ?_
                         rotate_left
                         · (intro w hSw; (try dsimp only at hSw); first | (go_simp; done) | (go_simp; with_reducible rfl))
                         (try simp only [Act.put, List.setIfInBounds_toArray, List.set_cons_zero, List.set_cons_succ]))
                      | fail
                    first
                      | (refine wpAnyH_take (i := 10) (v := undef) rfl (by kernel_rfl) (by kernel_rfl) (by kernel_rfl) (fun _ _ _ h => h) (Or.inr ⟨by rfl, rfl⟩) (by assumption) ?_
                         (try simp only [Act.put, List.setIfInBounds_toArray, List.set_cons_zero, List.set_cons_succ]))
                      | fail
                    first
                      | (refine wpAnyH_take (i := 11) (v := undef) rfl (by kernel_rfl) (by kernel_rfl) (by kernel_rfl) (fun _ _ _ h => h) (Or.inr ⟨by rfl, rfl⟩) (by assumption) ?_
                         (try simp only [Act.put, List.setIfInBounds_toArray, List.set_cons_zero, List.set_cons_succ]))
                      | fail
                    first
                      | (refine wpAnyH_take (i := 12) (v := ?_) rfl (by kernel_rfl) (by kernel_rfl) (by kernel_rfl) (fun _ _ _ h => h) (Or.inl ⟨by rfl, ?_⟩) (by assumption) ?_
                         rotate_left
                         · (intro w hSw; (try dsimp only at hSw); first | (go_simp; done) | (go_simp; with_reducible rfl))
                         (try simp only [Act.put, List.setIfInBounds_toArray, List.set_cons_zero, List.set_cons_succ]))
                      | fail
                    first
                      | (refine wpAnyH_take (i := 13) (v := ?_) rfl (by kernel_rfl) (by kernel_rfl) (by kernel_rfl) (fun _ _ _ h => h) (Or.inl ⟨by rfl, ?_⟩) (by assumption) ?_
                         rotate_left
                         · (intro w hSw; (try dsimp only at hSw); first | (go_simp; done) | (go_simp; with_reducible rfl))
                         (try simp only [Act.put, List.setIfInBounds_toArray, List.set_cons_zero, List.set_cons_succ]))
                      | fail
                    refine wpAnyH_done (by kernel_rfl) ?_ _
                    go_wp2_with fail
                    exact ⟨⟨k2 + 1, r, 0, by omega, by go_num, HN, hBr, S6⟩, by simp [intOf]; omega⟩
                  · have T1 := Lib.hid (dead_two hD kk2)
                    have T2 : Hid (le [] = 0) := rfl
                    have HN := Lib.hid hN
                    have hBn : Bytes [] := fun x hx => by simp at hx
                    have hc0 := HC1.out _ S4.drew.below
                    clear kk1 kk2 hN HI2 hD
                    cases hbb : ((0 : Int) == IntKind.u16.wrap f.n)
                    · go_wp2_with fail
                      go_region_held3 (fun w' => w'.cell? ⟨b, off + k2 * 35 + 1, none⟩ = some (.int .i64 f.n))
                        (first
                          | go_keep
                          | exact HC1.out _ S4.drew.below
                          | exact HC1.out _ S6.below)
                        (first
                          | (go_at_call 27; refine (rTwo_any S4.drew hB2).mono ?_; rintro e w5 ⟨rfl, S6⟩; rw [T1.out] at S6 ⊢; rw [T2.out]))
                      go_wp2_with fail
                      exact ⟨⟨k2 + 1, [], 2, by omega, by go_num, HN, hBn, S6⟩, by simp [intOf]; omega⟩
                    · go_wp2_with fail
                      refine wp_region_held_drew (S := fun w' => w'.cell? ⟨b, off + k2 * 35 + 1, none⟩ = some (.int .i64 f.n)) (by kernel_rfl) (HC1.out _ S4.drew.below) (fun hHeld => ?_)
                      first
                        | (refine wpAnyH_take (i := 0) (v := ?_) rfl (by kernel_rfl) (by kernel_rfl) (by kernel_rfl) (fun _ _ _ h => h) (Or.inl ⟨by rfl, ?_⟩) (by assumption) ?_
                           rotate_left
                           · (intro w hSw; (try dsimp only at hSw); first | (go_simp; done) | (go_simp; with_reducible rfl))
                           (try simp only [Act.put, List.setIfInBounds_toArray, List.set_cons_zero, List.set_cons_succ]))
                        | fail
                      first
                        | (refine wpAnyH_take (i := 2) (v := ?_) rfl (by kernel_rfl) (by kernel_rfl) (by kernel_rfl) (fun _ _ _ h => h) (Or.inl ⟨by rfl, ?_⟩) (by assumption) ?_
                           rotate_left
                           · (intro w hSw; (try dsimp only at hSw); first | (go_simp; done) | (go_simp; with_reducible rfl))
                           (try simp only [Act.put, List.setIfInBounds_toArray, List.set_cons_zero, List.set_cons_succ]))
                        | fail
                      first
                        | (refine wpAnyH_take (i := 3) (v := ?_) rfl (by kernel_rfl) (by kernel_rfl) (by kernel_rfl) (fun _ _ _ h => h) (Or.inl ⟨by rfl, ?_⟩) (by assumption) ?_
                           rotate_left
                           · (intro w hSw; (try dsimp only at hSw); first | (go_simp; done) | (go_simp; with_reducible rfl))
                           (try simp only [Act.put, List.setIfInBounds_toArray, List.set_cons_zero, List.set_cons_succ]))
                        | fail
                      first
                        | (refine wpAnyH_take (i := 4) (v := ?_) rfl (by kernel_rfl) (by kernel_rfl) (by kernel_rfl) (fun _ _ _ h => h) (Or.inl ⟨by rfl, ?_⟩) (by assumption) ?_
                           rotate_left
                           · (intro w hSw; (try dsimp only at hSw); first | (go_simp; done) | (go_simp; with_reducible rfl))
                           (try simp only [Act.put, List.setIfInBounds_toArray, List.set_cons_zero, List.set_cons_succ]))
                        | fail
                      first
                        | (refine wpAnyH_take (i := 5) (v := ?_) rfl (by kernel_rfl) (by kernel_rfl) (by kernel_rfl) (fun _ _ _ h => h) (Or.inl ⟨by rfl, ?_⟩) (by assumption) ?_
                           rotate_left
                           · (intro w hSw; (try dsimp only at hSw); first | (go_simp; done) | (go_simp; with_reducible rfl))
                           (try simp only [Act.put, List.setIfInBounds_toArray, List.set_cons_zero, List.set_cons_succ]))
                        | fail
                      first
                        | (refine wpAnyH_take (i := 6) (v := ?_) rfl (by kernel_rfl) (by kernel_rfl) (by kernel_rfl) (fun _ _ _ h => h) (Or.inl ⟨by rfl, ?_⟩) (by assumption) ?_
                           rotate_left
                           · (intro w hSw; (try dsimp only at hSw); first | (go_simp; done) | (go_simp; with_reducible rfl))
                           (try simp only [Act.put, List.setIfInBounds_toArray, List.set_cons_zero, List.set_cons_succ]))
                        | fail
                      first
                        | (refine wpAnyH_take (i := 7) (v := ?_) rfl (by kernel_rfl) (by kernel_rfl) (by kernel_rfl) (fun _ _ _ h => h) (Or.inl ⟨by rfl, ?_⟩) (by assumption) ?_
                           rotate_left
                           · (intro w hSw; (try dsimp only at hSw); first | (go_simp; done) | (go_simp; with_reducible rfl))
                           (try simp only [Act.put, List.setIfInBounds_toArray, List.set_cons_zero, List.set_cons_succ]))
                        | fail
                      refine wpAnyH_ready (rs := [1]) (by kernel_rfl) (by simp) ?_
                      refine AllReadyH.cons rfl (fun K hK => ?_) AllReadyH.nil
                      go_simp
                      go_at_call 27
                      refine (rTwo_any S4.drew hB2).mono ?_
                      rintro e w5 ⟨rfl, S6⟩
                      rw [T1.out] at S6 ⊢
                      rw [T2.out]
                      go_wp2_with fail
                      refine hK.out _ _ (HC1.out _ S6.below) (fun hHeld2 => ?_)
                      clear hK K hHeld
                      try simp only [Act.put, List.setIfInBounds_toArray, List.set_cons_zero, List.set_cons_succ]
                      first
                        | (refine wpAnyH_take (i := 8) (v := ?_) rfl (by kernel_rfl) (by kernel_rfl) (by kernel_rfl) (fun _ _ _ h => h) (Or.inl ⟨by rfl, ?_⟩) (by assumption) ?_
                           rotate_left
                           · (intro w hSw; (try dsimp only at hSw); first | (go_simp; done) | (go_simp; with_reducible rfl))
                           (try simp only [Act.put, List.setIfInBounds_toArray, List.set_cons_zero, List.set_cons_succ]))
                        | fail
                      first
                        | (refine wpAnyH_take (i := 9) (v := ?_) rfl (by kernel_rfl) (by kernel_rfl) (by kernel_rfl) (fun _ _ _ h => h) (Or.inl ⟨by rfl, ?_⟩) (by assumption) ?_
                           rotate_left
                           · (intro w hSw; (try dsimp only at hSw); first | (go_simp; done) | (go_simp; with_reducible rfl))
                           (try simp only [Act.put, List.setIfInBounds_toArray, List.set_cons_zero, List.set_cons_succ]))
                        | fail
                      first
                        | (refine wpAnyH_take (i := 10) (v := undef) rfl (by kernel_rfl) (by kernel_rfl) (by kernel_rfl) (fun _ _ _ h => h) (Or.inr ⟨by rfl, rfl⟩) (by assumption) ?_
                           (try simp only [Act.put, List.setIfInBounds_toArray, List.set_cons_zero, List.set_cons_succ]))
                        | fail
                      first
                        | (refine wpAnyH_take (i := 11) (v := undef) rfl (by kernel_rfl) (by kernel_rfl) (by kernel_rfl) (fun _ _ _ h => h) (Or.inr ⟨by rfl, rfl⟩) (by assumption) ?_
                           (try simp only [Act.put, List.setIfInBounds_toArray, List.set_cons_zero, List.set_cons_succ]))
                        | fail
                      first
                        | (refine wpAnyH_take (i := 12) (v := ?_) rfl (by kernel_rfl) (by kernel_rfl) (by kernel_rfl) (fun _ _ _ h => h) (Or.inl ⟨by rfl, ?_⟩) (by assumption) ?_
                           rotate_left
                           · (intro w hSw; (try dsimp only at hSw); first | (go_simp; done) | (go_simp; with_reducible rfl))
                           (try simp only [Act.put, List.setIfInBounds_toArray, List.set_cons_zero, List.set_cons_succ]))
                        | fail
                      first
                        | (refine wpAnyH_take (i := 13) (v := ?_) rfl (by kernel_rfl) (by kernel_rfl) (by kernel_rfl) (fun _ _ _ h => h) (Or.inl ⟨by rfl, ?_⟩) (by assumption) ?_
                           rotate_left
                           · (intro w hSw; (try dsimp only at hSw); first | (go_simp; done) | (go_simp; with_reducible rfl))
                           (try simp only [Act.put, List.setIfInBounds_toArray, List.set_cons_zero, List.set_cons_succ]))
                        | fail
                      refine wpAnyH_done (by kernel_rfl) ?_ _
                      go_wp2_with fail
                      exact ⟨⟨k2 + 1, [], 2, by omega, by go_num, HN, hBn, S6⟩, by simp [intOf]; omega⟩
                by_cases kk3 : f.kind = 3
                · have e3 : (f.kind == 3) = true := by simpa using kk3
                  have n1 : (f.kind == 1) = false := by simpa using kk1
                  have n2 : (f.kind == 2) = false := by simpa using kk2
                  rcases hstep with ⟨hW, r, rfl, rfl, hN⟩ | ⟨hW, hD, hN⟩
                  · obtain ⟨a4, t1, t2⟩ := rd_four kk3 r
                    have T1 := Lib.hid t1
                    have T2 := Lib.hid t2
                    clear t1 t2
                    have b1 : (f.n % 4294967296 == IntKind.u32.wrap f.n) = true := by rw [IntKind.wrap_u32]; exact beq_self_eq_true _
                    have HN := Lib.hid hN
                    have hBr : Bytes r := fun x hx => hB2 x (by simp [hx])
                    clear kk1 kk2 kk3 hN HI2
                    go_wp2_with fail
                    refine wp_region_held_drew (S := fun w' => w'.cell? ⟨b, off + k2 * 35 + 1, none⟩ = some (.int .i64 f.n)) (by kernel_rfl) (HC1.out _ S4.drew.below) (fun hHeld => ?_)
                    first
                      | (refine wpAnyH_take (i := 0) (v := ?_) rfl (by kernel_rfl) (by kernel_rfl) (by kernel_rfl) (fun _ _ _ h => h) (Or.inl ⟨by rfl, ?_⟩) (by assumption) ?_
                         rotate_left
                         · (intro w hSw; (try dsimp only at hSw); first | (go_simp; done) | (go_simp; with_reducible rfl))
                         (try simp only [Act.put, List.setIfInBounds_toArray, List.set_cons_zero, List.set_cons_succ]))
                      | fail
                    first
                      | (refine wpAnyH_take (i := 2) (v := ?_) rfl (by kernel_rfl) (by kernel_rfl) (by kernel_rfl) (fun _ _ _ h => h) (Or.inl ⟨by rfl, ?_⟩) (by assumption) ?_
                         rotate_left
                         · (intro w hSw; (try dsimp only at hSw); first | (go_simp; done) | (go_simp; with_reducible rfl))
                         (try simp only [Act.put, List.setIfInBounds_toArray, List.set_cons_zero, List.set_cons_succ]))
                      | fail
                    first
                      | (refine wpAnyH_take (i := 3) (v := ?_) rfl (by kernel_rfl) (by kernel_rfl) (by kernel_rfl) (fun _ _ _ h => h) (Or.inl ⟨by rfl, ?_⟩) (by assumption) ?_
                         rotate_left
                         · (intro w hSw; (try dsimp only at hSw); first | (go_simp; done) | (go_simp; with_reducible rfl))
                         (try simp only [Act.put, List.setIfInBounds_toArray, List.set_cons_zero, List.set_cons_succ]))
                      | fail
                    first
                      | (refine wpAnyH_take (i := 4) (v := ?_) rfl (by kernel_rfl) (by kernel_rfl) (by kernel_rfl) (fun _ _ _ h => h) (Or.inl ⟨by rfl, ?_⟩) (by assumption) ?_
                         rotate_left
                         · (intro w hSw; (try dsimp only at hSw); first | (go_simp; done) | (go_simp; with_reducible rfl))
                         (try simp only [Act.put, List.setIfInBounds_toArray, List.set_cons_zero, List.set_cons_succ]))
                      | fail
                    first
                      | (refine wpAnyH_take (i := 5) (v := ?_) rfl (by kernel_rfl) (by kernel_rfl) (by kernel_rfl) (fun _ _ _ h => h) (Or.inl ⟨by rfl, ?_⟩) (by assumption) ?_
                         rotate_left
                         · (intro w hSw; (try dsimp only at hSw); first | (go_simp; done) | (go_simp; with_reducible rfl))
                         (try simp only [Act.put, List.setIfInBounds_toArray, List.set_cons_zero, List.set_cons_succ]))
                      | fail
                    first
                      | (refine wpAnyH_take (i := 6) (v := ?_) rfl (by kernel_rfl) (by kernel_rfl) (by kernel_rfl) (fun _ _ _ h => h) (Or.inl ⟨by rfl, ?_⟩) (by assumption) ?_
                         rotate_left
                         · (intro w hSw; (try dsimp only at hSw); first | (go_simp; done) | (go_simp; with_reducible rfl))
                         (try simp only [Act.put, List.setIfInBounds_toArray, List.set_cons_zero, List.set_cons_succ]))
                      | fail
                    first
                      | (refine wpAnyH_take (i := 7) (v := ?_) rfl (by kernel_rfl) (by kernel_rfl) (by kernel_rfl) (fun _ _ _ h => h) (Or.inl ⟨by rfl, ?_⟩) (by assumption) ?_
                         rotate_left
                         · (intro w hSw; (try dsimp only at hSw); first | (go_simp; done) | (go_simp; with_reducible rfl))
                         (try simp only [Act.put, List.setIfInBounds_toArray, List.set_cons_zero, List.set_cons_succ]))
                      | fail
                    refine wpAnyH_ready (rs := [1]) (by kernel_rfl) (by simp) ?_
                    refine AllReadyH.cons rfl (fun K hK => ?_) AllReadyH.nil
                    go_simp
                    go_at_call 28
                    refine (rFour_any S4.drew hB2).mono ?_
                    rintro e w5 ⟨rfl, S6⟩
                    rw [T1.out] at S6 ⊢
                    rw [T2.out]
                    go_wp2_with fail
                    refine hK.out _ _ (HC1.out _ S6.below) (fun hHeld2 => ?_)
                    clear hK K hHeld
                    try simp only [Act.put, List.setIfInBounds_toArray, List.set_cons_zero, List.set_cons_succ]
                    first
                      | (refine wpAnyH_take (i := 8) (v := ?_) rfl (by kernel_rfl) (by kernel_rfl) (by kernel_rfl) (fun _ _ _ h => h) (Or.inl ⟨by rfl, ?_⟩) (by assumption) ?_
                         rotate_left
                         · (intro w hSw; (try dsimp only at hSw); first | (go_simp; done) | (go_simp; with_reducible rfl))
                         (try simp only [Act.put, List.setIfInBounds_toArray, List.set_cons_zero, List.set_cons_succ]))
                      | fail
                    first
                      | (refine wpAnyH_take (i := 9) (v := ?_) rfl (by kernel_rfl) (by kernel_rfl) (by kernel_rfl) (fun _ _ _ h => h) (Or.inl ⟨by rfl, ?_⟩) (by assumption) ?_
                         rotate_left
                         · (intro w hSw; (try dsimp only at hSw); first | (go_simp; done) | (go_simp; with_reducible rfl))
                         (try simp only [Act.put, List.setIfInBounds_toArray, List.set_cons_zero, List.set_cons_succ]))
                      | fail
                    first
                      | (refine wpAnyH_take (i := 10) (v := undef) rfl (by kernel_rfl) (by kernel_rfl) (by kernel_rfl) (fun _ _ _ h => h) (Or.inr ⟨by rfl, rfl⟩) (by assumption) ?_
                         (try simp only [Act.put, List.setIfInBounds_toArray, List.set_cons_zero, List.set_cons_succ]))
                      | fail
                    first
                      | (refine wpAnyH_take (i := 11) (v := undef) rfl (by kernel_rfl) (by kernel_rfl) (by kernel_rfl) (fun _ _ _ h => h) (Or.inr ⟨by rfl, rfl⟩) (by assumption) ?_
                         (try simp only [Act.put, List.setIfInBounds_toArray, List.set_cons_zero, List.set_cons_succ]))
                      | fail
                    first
                      | (refine wpAnyH_take (i := 12) (v := ?_) rfl (by kernel_rfl) (by kernel_rfl) (by kernel_rfl) (fun _ _ _ h => h) (Or.inl ⟨by rfl, ?_⟩) (by assumption) ?_
                         rotate_left
                         · (intro w hSw; (try dsimp only at hSw); first | (go_simp; done) | (go_simp; with_reducible rfl))
                         (try simp only [Act.put, List.setIfInBounds_toArray, List.set_cons_zero, List.set_cons_succ]))
                      | fail
                    first
                      | (refine wpAnyH_take (i := 13) (v := ?_) rfl (by kernel_rfl) (by kernel_rfl) (by kernel_rfl) (fun _ _ _ h => h) (Or.inl ⟨by rfl, ?_⟩) (by assumption) ?_
                         rotate_left
                         · (intro w hSw; (try dsimp only at hSw); first | (go_simp; done) | (go_simp; with_reducible rfl))
                         (try simp only [Act.put, List.setIfInBounds_toArray, List.set_cons_zero, List.set_cons_succ]))
                      | fail
                    refine wpAnyH_done (by kernel_rfl) ?_ _
                    go_wp2_with fail
                    exact ⟨⟨k2 + 1, r, 0, by omega, by go_num, HN, hBr, S6⟩, by simp [intOf]; omega⟩
                  · have T1 := Lib.hid (dead_four hD kk3)
                    have T2 : Hid (le [] = 0) := rfl
                    have HN := Lib.hid hN
                    have hBn : Bytes [] := fun x hx => by simp at hx
                    have hc0 := HC1.out _ S4.drew.below
                    clear kk1 kk2 kk3 hN HI2 hD
                    cases hbb : ((0 : Int) == IntKind.u32.wrap f.n)
                    · go_wp2_with fail
                      go_region_held3 (fun w' => w'.cell? ⟨b, off + k2 * 35 + 1, none⟩ = some (.int .i64 f.n))
                        (first
                          | go_keep
                          | exact HC1.out _ S4.drew.below
                          | exact HC1.out _ S6.below)
                        (first
                          | (go_at_call 28; refine (rFour_any S4.drew hB2).mono ?_; rintro e w5 ⟨rfl, S6⟩; rw [T1.out] at S6 ⊢; rw [T2.out]))
                      go_wp2_with fail
                      exact ⟨⟨k2 + 1, [], 2, by omega, by go_num, HN, hBn, S6⟩, by simp [intOf]; omega⟩
                    · go_wp2_with fail
                      refine wp_region_held_drew (S := fun w' => w'.cell? ⟨b, off + k2 * 35 + 1, none⟩ = some (.int .i64 f.n)) (by kernel_rfl) (HC1.out _ S4.drew.below) (fun hHeld => ?_)
                      first
                        | (refine wpAnyH_take (i := 0) (v := ?_) rfl (by kernel_rfl) (by kernel_rfl) (by kernel_rfl) (fun _ _ _ h => h) (Or.inl ⟨by rfl, ?_⟩) (by assumption) ?_
                           rotate_left
                           · (intro w hSw; (try dsimp only at hSw); first | (go_simp; done) | (go_simp; with_reducible rfl))
                           (try simp only [Act.put, List.setIfInBounds_toArray, List.set_cons_zero, List.set_cons_succ]))
                        | fail
                      first
                        | (refine wpAnyH_take (i := 2) (v := ?_) rfl (by kernel_rfl) (by kernel_rfl) (by kernel_rfl) (fun _ _ _ h => h) (Or.inl ⟨by rfl, ?_⟩) (by assumption) ?_
                           rotate_left
                           · (intro w hSw; (try dsimp only at hSw); first | (go_simp; done) | (go_simp; with_reducible rfl))
                           (try simp only [Act.put, List.setIfInBounds_toArray, List.set_cons_zero, List.set_cons_succ]))
                        | fail
                      first
                        | (refine wpAnyH_take (i := 3) (v := ?_) rfl (by kernel_rfl) (by kernel_rfl) (by kernel_rfl) (fun _ _ _ h => h) (Or.inl ⟨by rfl, ?_⟩) (by assumption) ?_
                           rotate_left
                           · (intro w hSw; (try dsimp only at hSw); first | (go_simp; done) | (go_simp; with_reducible rfl))
                           (try simp only [Act.put, List.setIfInBounds_toArray, List.set_cons_zero, List.set_cons_succ]))
                        | fail
                      first
                        | (refine wpAnyH_take (i := 4) (v := ?_) rfl (by kernel_rfl) (by kernel_rfl) (by kernel_rfl) (fun _ _ _ h => h) (Or.inl ⟨by rfl, ?_⟩) (by assumption) ?_
                           rotate_left
                           · (intro w hSw; (try dsimp only at hSw); first | (go_simp; done) | (go_simp; with_reducible rfl))
                           (try simp only [Act.put, List.setIfInBounds_toArray, List.set_cons_zero, List.set_cons_succ]))
                        | fail
                      first
                        | (refine wpAnyH_take (i := 5) (v := ?_) rfl (by kernel_rfl) (by kernel_rfl) (by kernel_rfl) (fun _ _ _ h => h) (Or.inl ⟨by rfl, ?_⟩) (by assumption) ?_
                           rotate_left
                           · (intro w hSw; (try dsimp only at hSw); first | (go_simp; done) | (go_simp; with_reducible rfl))
                           (try simp only [Act.put, List.setIfInBounds_toArray, List.set_cons_zero, List.set_cons_succ]))
                        | fail
                      first
                        | (refine wpAnyH_take (i := 6) (v := ?_) rfl (by kernel_rfl) (by kernel_rfl) (by kernel_rfl) (fun _ _ _ h => h) (Or.inl ⟨by rfl, ?_⟩) (by assumption) ?_
                           rotate_left
                           · (intro w hSw; (try dsimp only at hSw); first | (go_simp; done) | (go_simp; with_reducible rfl))
                           (try simp only [Act.put, List.setIfInBounds_toArray, List.set_cons_zero, List.set_cons_succ]))
                        | fail
                      first
                        | (refine wpAnyH_take (i := 7) (v := ?_) rfl (by kernel_rfl) (by kernel_rfl) (by kernel_rfl) (fun _ _ _ h => h) (Or.inl ⟨by rfl, ?_⟩) (by assumption) ?_
                           rotate_left
                           · (intro w hSw; (try dsimp only at hSw); first | (go_simp; done) | (go_simp; with_reducible rfl))
                           (try simp only [Act.put, List.setIfInBounds_toArray, List.set_cons_zero, List.set_cons_succ]))
                        | fail
                      refine wpAnyH_ready (rs := [1]) (by kernel_rfl) (by simp) ?_
                      refine AllReadyH.cons rfl (fun K hK => ?_) AllReadyH.nil
                      go_simp
                      go_at_call 28
                      refine (rFour_any S4.drew hB2).mono ?_
                      rintro e w5 ⟨rfl, S6⟩
                      rw [T1.out] at S6 ⊢
                      rw [T2.out]
                      go_wp2_with fail
                      refine hK.out _ _ (HC1.out _ S6.below) (fun hHeld2 => ?_)
                      clear hK K hHeld
                      try simp only [Act.put, List.setIfInBounds_toArray, List.set_cons_zero, List.set_cons_succ]
                      first
                        | (refine wpAnyH_take (i := 8) (v := ?_) rfl (by kernel_rfl) (by kernel_rfl) (by kernel_rfl) (fun _ _ _ h => h) (Or.inl ⟨by rfl, ?_⟩) (by assumption) ?_
                           rotate_left
                           · (intro w hSw; (try dsimp only at hSw); first | (go_simp; done) | (go_simp; with_reducible rfl))
                           (try simp only [Act.put, List.setIfInBounds_toArray, List.set_cons_zero, List.set_cons_succ]))
                        | fail
                      first
                        | (refine wpAnyH_take (i := 9) (v := ?_) rfl (by kernel_rfl) (by kernel_rfl) (by kernel_rfl) (fun _ _ _ h => h) (Or.inl ⟨by rfl, ?_⟩) (by assumption) ?_
                           rotate_left
                           · (intro w hSw; (try dsimp only at hSw); first | (go_simp; done) | (go_simp; with_reducible rfl))
                           (try simp only [Act.put, List.setIfInBounds_toArray, List.set_cons_zero, List.set_cons_succ]))
                        | fail
                      first
                        | (refine wpAnyH_take (i := 10) (v := undef) rfl (by kernel_rfl) (by kernel_rfl) (by kernel_rfl) (fun _ _ _ h => h) (Or.inr ⟨by rfl, rfl⟩) (by assumption) ?_
                           (try simp only [Act.put, List.setIfInBounds_toArray, List.set_cons_zero, List.set_cons_succ]))
                        | fail
                      first
                        | (refine wpAnyH_take (i := 11) (v := undef) rfl (by kernel_rfl) (by kernel_rfl) (by kernel_rfl) (fun _ _ _ h => h) (Or.inr ⟨by rfl, rfl⟩) (by assumption) ?_
                           (try simp only [Act.put, List.setIfInBounds_toArray, List.set_cons_zero, List.set_cons_succ]))
                        | fail
                      first
                        | (refine wpAnyH_take (i := 12) (v := ?_) rfl (by kernel_rfl) (by kernel_rfl) (by kernel_rfl) (fun _ _ _ h => h) (Or.inl ⟨by rfl, ?_⟩) (by assumption) ?_
                           rotate_left
                           · (intro w hSw; (try dsimp only at hSw); first | (go_simp; done) | (go_simp; with_reducible rfl))
                           (try simp only [Act.put, List.setIfInBounds_toArray, List.set_cons_zero, List.set_cons_succ]))
                        | fail
                      first
                        | (refine wpAnyH_take (i := 13) (v := ?_) rfl (by kernel_rfl) (by kernel_rfl) (by kernel_rfl) (fun _ _ _ h => h) (Or.inl ⟨by rfl, ?_⟩) (by assumption) ?_
                           rotate_left
                           · (intro w hSw; (try dsimp only at hSw); first | (go_simp; done) | (go_simp; with_reducible rfl))
                           (try simp only [Act.put, List.setIfInBounds_toArray, List.set_cons_zero, List.set_cons_succ]))
                        | fail
                      refine wpAnyH_done (by kernel_rfl) ?_ _
                      go_wp2_with fail
                      exact ⟨⟨k2 + 1, [], 2, by omega, by go_num, HN, hBn, S6⟩, by simp [intOf]; omega⟩
                by_cases kk4 : f.kind = 4
                · have e4 : (f.kind == 4) = true := by simpa using kk4
                  have n1 : (f.kind == 1) = false := by simpa using kk1
                  have n2 : (f.kind == 2) = false := by simpa using kk2
                  have n3 : (f.kind == 3) = false := by simpa using kk3
                  rcases hstep with ⟨hW, r, rfl, rfl, hN⟩ | ⟨hW, hD, hN⟩
                  · have T1 := Lib.hid (rd_num hgf kk4 r)
                    have HN := Lib.hid hN
                    have hBr : Bytes r := fun x hx => hB2 x (by simp [hx])
                    clear kk1 kk2 kk3 kk4 hN HI2
                    go_wp2_with fail
                    refine wp_region_held_drew (S := fun w' => w'.cell? ⟨b, off + k2 * 35 + 1, none⟩ = some (.int .i64 f.n)) (by kernel_rfl) (HC1.out _ S4.drew.below) (fun hHeld => ?_)
                    first
                      | (refine wpAnyH_take (i := 0) (v := ?_) rfl (by kernel_rfl) (by kernel_rfl) (by kernel_rfl) (fun _ _ _ h => h) (Or.inl ⟨by rfl, ?_⟩) (by assumption) ?_
                         rotate_left
                         · (intro w hSw; (try dsimp only at hSw); first | (go_simp; done) | (go_simp; with_reducible rfl))
                         (try simp only [Act.put, List.setIfInBounds_toArray, List.set_cons_zero, List.set_cons_succ]))
                      | fail
                    first
                      | (refine wpAnyH_take (i := 2) (v := ?_) rfl (by kernel_rfl) (by kernel_rfl) (by kernel_rfl) (fun _ _ _ h => h) (Or.inl ⟨by rfl, ?_⟩) (by assumption) ?_
                         rotate_left
                         · (intro w hSw; (try dsimp only at hSw); first | (go_simp; done) | (go_simp; with_reducible rfl))
                         (try simp only [Act.put, List.setIfInBounds_toArray, List.set_cons_zero, List.set_cons_succ]))
                      | fail
                    first
                      | (refine wpAnyH_take (i := 3) (v := ?_) rfl (by kernel_rfl) (by kernel_rfl) (by kernel_rfl) (fun _ _ _ h => h) (Or.inl ⟨by rfl, ?_⟩) (by assumption) ?_
                         rotate_left
                         · (intro w hSw; (try dsimp only at hSw); first | (go_simp; done) | (go_simp; with_reducible rfl))
                         (try simp only [Act.put, List.setIfInBounds_toArray, List.set_cons_zero, List.set_cons_succ]))
                      | fail
                    first
                      | (refine wpAnyH_take (i := 4) (v := ?_) rfl (by kernel_rfl) (by kernel_rfl) (by kernel_rfl) (fun _ _ _ h => h) (Or.inl ⟨by rfl, ?_⟩) (by assumption) ?_
                         rotate_left
                         · (intro w hSw; (try dsimp only at hSw); first | (go_simp; done) | (go_simp; with_reducible rfl))
                         (try simp only [Act.put, List.setIfInBounds_toArray, List.set_cons_zero, List.set_cons_succ]))
                      | fail
                    first
                      | (refine wpAnyH_take (i := 5) (v := ?_) rfl (by kernel_rfl) (by kernel_rfl) (by kernel_rfl) (fun _ _ _ h => h) (Or.inl ⟨by rfl, ?_⟩) (by assumption) ?_
                         rotate_left
                         · (intro w hSw; (try dsimp only at hSw); first | (go_simp; done) | (go_simp; with_reducible rfl))
                         (try simp only [Act.put, List.setIfInBounds_toArray, List.set_cons_zero, List.set_cons_succ]))
                      | fail
                    first
                      | (refine wpAnyH_take (i := 6) (v := ?_) rfl (by kernel_rfl) (by kernel_rfl) (by kernel_rfl) (fun _ _ _ h => h) (Or.inl ⟨by rfl, ?_⟩) (by assumption) ?_
                         rotate_left
                         · (intro w hSw; (try dsimp only at hSw); first | (go_simp; done) | (go_simp; with_reducible rfl))
                         (try simp only [Act.put, List.setIfInBounds_toArray, List.set_cons_zero, List.set_cons_succ]))
                      | fail
                    refine wpAnyH_ready (rs := [1]) (by kernel_rfl) (by simp) ?_
                    refine AllReadyH.cons rfl (fun K hK => ?_) AllReadyH.nil
                    go_simp
                    go_at_call 19
                    refine (rNum_any S4.drew hB2).mono ?_
                    unfold Nummed
                    rintro e w5 ⟨rfl, S6⟩
                    rw [T1.out] at S6 ⊢
                    go_wp2_with fail
                    refine hK.out _ _ (HC1.out _ S6.below) (fun hHeld2 => ?_)
                    clear hK K hHeld
                    try simp only [Act.put, List.setIfInBounds_toArray, List.set_cons_zero, List.set_cons_succ]
                    first
                      | (refine wpAnyH_take (i := 7) (v := ?_) rfl (by kernel_rfl) (by kernel_rfl) (by kernel_rfl) (fun _ _ _ h => h) (Or.inl ⟨by rfl, ?_⟩) (by assumption) ?_
                         rotate_left
                         · (intro w hSw; (try dsimp only at hSw); first | (go_simp; done) | (go_simp; with_reducible rfl))
                         (try simp only [Act.put, List.setIfInBounds_toArray, List.set_cons_zero, List.set_cons_succ]))
                      | fail
                    first
                      | (refine wpAnyH_take (i := 8) (v := ?_) rfl (by kernel_rfl) (by kernel_rfl) (by kernel_rfl) (fun _ _ _ h => h) (Or.inl ⟨by rfl, ?_⟩) (by assumption) ?_
                         rotate_left
                         · (intro w hSw; (try dsimp only at hSw); first | (go_simp; done) | (go_simp; with_reducible rfl))
                         (try simp only [Act.put, List.setIfInBounds_toArray, List.set_cons_zero, List.set_cons_succ]))
                      | fail
                    first
                      | (refine wpAnyH_take (i := 9) (v := undef) rfl (by kernel_rfl) (by kernel_rfl) (by kernel_rfl) (fun _ _ _ h => h) (Or.inr ⟨by rfl, rfl⟩) (by assumption) ?_
                         (try simp only [Act.put, List.setIfInBounds_toArray, List.set_cons_zero, List.set_cons_succ]))
                      | fail
                    first
                      | (refine wpAnyH_take (i := 10) (v := undef) rfl (by kernel_rfl) (by kernel_rfl) (by kernel_rfl) (fun _ _ _ h => h) (Or.inr ⟨by rfl, rfl⟩) (by assumption) ?_
                         (try simp only [Act.put, List.setIfInBounds_toArray, List.set_cons_zero, List.set_cons_succ]))
                      | fail
                    first
                      | (refine wpAnyH_take (i := 11) (v := ?_) rfl (by kernel_rfl) (by kernel_rfl) (by kernel_rfl) (fun _ _ _ h => h) (Or.inl ⟨by rfl, ?_⟩) (by assumption) ?_
                         rotate_left
                         · (intro w hSw; (try dsimp only at hSw); first | (go_simp; done) | (go_simp; with_reducible rfl))
                         (try simp only [Act.put, List.setIfInBounds_toArray, List.set_cons_zero, List.set_cons_succ]))
                      | fail
                    first
                      | (refine wpAnyH_take (i := 12) (v := ?_) rfl (by kernel_rfl) (by kernel_rfl) (by kernel_rfl) (fun _ _ _ h => h) (Or.inl ⟨by rfl, ?_⟩) (by assumption) ?_
                         rotate_left
                         · (intro w hSw; (try dsimp only at hSw); first | (go_simp; done) | (go_simp; with_reducible rfl))
                         (try simp only [Act.put, List.setIfInBounds_toArray, List.set_cons_zero, List.set_cons_succ]))
                      | fail
                    refine wpAnyH_done (by kernel_rfl) ?_ _
                    go_wp2_with fail
                    exact ⟨⟨k2 + 1, r, 0, by omega, by go_num, HN, hBr, S6⟩, by simp [intOf]; omega⟩
                  · have T1 := Lib.hid (dead_num hD kk4)
                    have HN := Lib.hid hN
                    have hBn : Bytes [] := fun x hx => by simp at hx
                    have hc0 := HC1.out _ S4.drew.below
                    clear kk1 kk2 kk3 kk4 hN HI2 hD
                    cases hbb : ((0 : Int) == f.n)
                    · go_wp2_with fail
                      go_region_held3 (fun w' => w'.cell? ⟨b, off + k2 * 35 + 1, none⟩ = some (.int .i64 f.n))
                        (first
                          | go_keep
                          | exact HC1.out _ S4.drew.below
                          | exact HC1.out _ S6.below)
                        (first
                          | (go_at_call 19; refine (rNum_any S4.drew hB2).mono ?_; unfold Nummed; rintro e w5 ⟨rfl, S6⟩; rw [T1.out] at S6 ⊢))
                      go_wp2_with fail
                      exact ⟨⟨k2 + 1, [], 2, by omega, by go_num, HN, hBn, S6⟩, by simp [intOf]; omega⟩
                    · go_wp2_with fail
                      refine wp_region_held_drew (S := fun w' => w'.cell? ⟨b, off + k2 * 35 + 1, none⟩ = some (.int .i64 f.n)) (by kernel_rfl) (HC1.out _ S4.drew.below) (fun hHeld => ?_)
                      first
                        | (refine wpAnyH_take (i := 0) (v := ?_) rfl (by kernel_rfl) (by kernel_rfl) (by kernel_rfl) (fun _ _ _ h => h) (Or.inl ⟨by rfl, ?_⟩) (by assumption) ?_
                           rotate_left
                           · (intro w hSw; (try dsimp only at hSw); first | (go_simp; done) | (go_simp; with_reducible rfl))
                           (try simp only [Act.put, List.setIfInBounds_toArray, List.set_cons_zero, List.set_cons_succ]))
                        | fail
                      first
                        | (refine wpAnyH_take (i := 2) (v := ?_) rfl (by kernel_rfl) (by kernel_rfl) (by kernel_rfl) (fun _ _ _ h => h) (Or.inl ⟨by rfl, ?_⟩) (by assumption) ?_
                           rotate_left
                           · (intro w hSw; (try dsimp only at hSw); first | (go_simp; done) | (go_simp; with_reducible rfl))
                           (try simp only [Act.put, List.setIfInBounds_toArray, List.set_cons_zero, List.set_cons_succ]))
                        | fail
                      first
                        | (refine wpAnyH_take (i := 3) (v := ?_) rfl (by kernel_rfl) (by kernel_rfl) (by kernel_rfl) (fun _ _ _ h => h) (Or.inl ⟨by rfl, ?_⟩) (by assumption) ?_
                           rotate_left
                           · (intro w hSw; (try dsimp only at hSw); first | (go_simp; done) | (go_simp; with_reducible rfl))
                           (try simp only [Act.put, List.setIfInBounds_toArray, List.set_cons_zero, List.set_cons_succ]))
                        | fail
                      first
                        | (refine wpAnyH_take (i := 4) (v := ?_) rfl (by kernel_rfl) (by kernel_rfl) (by kernel_rfl) (fun _ _ _ h => h) (Or.inl ⟨by rfl, ?_⟩) (by assumption) ?_
                           rotate_left
                           · (intro w hSw; (try dsimp only at hSw); first | (go_simp; done) | (go_simp; with_reducible rfl))
                           (try simp only [Act.put, List.setIfInBounds_toArray, List.set_cons_zero, List.set_cons_succ]))
                        | fail
                      first
                        | (refine wpAnyH_take (i := 5) (v := ?_) rfl (by kernel_rfl) (by kernel_rfl) (by kernel_rfl) (fun _ _ _ h => h) (Or.inl ⟨by rfl, ?_⟩) (by assumption) ?_
                           rotate_left
                           · (intro w hSw; (try dsimp only at hSw); first | (go_simp; done) | (go_simp; with_reducible rfl))
                           (try simp only [Act.put, List.setIfInBounds_toArray, List.set_cons_zero, List.set_cons_succ]))
                        | fail
                      first
                        | (refine wpAnyH_take (i := 6) (v := ?_) rfl (by kernel_rfl) (by kernel_rfl) (by kernel_rfl) (fun _ _ _ h => h) (Or.inl ⟨by rfl, ?_⟩) (by assumption) ?_
                           rotate_left
                           · (intro w hSw; (try dsimp only at hSw); first | (go_simp; done) | (go_simp; with_reducible rfl))
                           (try simp only [Act.put, List.setIfInBounds_toArray, List.set_cons_zero, List.set_cons_succ]))
                        | fail
                      refine wpAnyH_ready (rs := [1]) (by kernel_rfl) (by simp) ?_
                      refine AllReadyH.cons rfl (fun K hK => ?_) AllReadyH.nil
                      go_simp
                      go_at_call 19
                      refine (rNum_any S4.drew hB2).mono ?_
                      unfold Nummed
                      rintro e w5 ⟨rfl, S6⟩
                      rw [T1.out] at S6 ⊢
                      go_wp2_with fail
                      refine hK.out _ _ (HC1.out _ S6.below) (fun hHeld2 => ?_)
                      clear hK K hHeld
                      try simp only [Act.put, List.setIfInBounds_toArray, List.set_cons_zero, List.set_cons_succ]
                      first
                        | (refine wpAnyH_take (i := 7) (v := ?_) rfl (by kernel_rfl) (by kernel_rfl) (by kernel_rfl) (fun _ _ _ h => h) (Or.inl ⟨by rfl, ?_⟩) (by assumption) ?_
                           rotate_left
                           · (intro w hSw; (try dsimp only at hSw); first | (go_simp; done) | (go_simp; with_reducible rfl))
                           (try simp only [Act.put, List.setIfInBounds_toArray, List.set_cons_zero, List.set_cons_succ]))
                        | fail
                      first
                        | (refine wpAnyH_take (i := 8) (v := ?_) rfl (by kernel_rfl) (by kernel_rfl) (by kernel_rfl) (fun _ _ _ h => h) (Or.inl ⟨by rfl, ?_⟩) (by assumption) ?_
                           rotate_left
                           · (intro w hSw; (try dsimp only at hSw); first | (go_simp; done) | (go_simp; with_reducible rfl))
                           (try simp only [Act.put, List.setIfInBounds_toArray, List.set_cons_zero, List.set_cons_succ]))
                        | fail
                      first
                        | (refine wpAnyH_take (i := 9) (v := undef) rfl (by kernel_rfl) (by kernel_rfl) (by kernel_rfl) (fun _ _ _ h => h) (Or.inr ⟨by rfl, rfl⟩) (by assumption) ?_
                           (try simp only [Act.put, List.setIfInBounds_toArray, List.set_cons_zero, List.set_cons_succ]))
                        | fail
                      first
                        | (refine wpAnyH_take (i := 10) (v := undef) rfl (by kernel_rfl) (by kernel_rfl) (by kernel_rfl) (fun _ _ _ h => h) (Or.inr ⟨by rfl, rfl⟩) (by assumption) ?_
                           (try simp only [Act.put, List.setIfInBounds_toArray, List.set_cons_zero, List.set_cons_succ]))
                        | fail
                      first
                        | (refine wpAnyH_take (i := 11) (v := ?_) rfl (by kernel_rfl) (by kernel_rfl) (by kernel_rfl) (fun _ _ _ h => h) (Or.inl ⟨by rfl, ?_⟩) (by assumption) ?_
                           rotate_left
                           · (intro w hSw; (try dsimp only at hSw); first | (go_simp; done) | (go_simp; with_reducible rfl))
                           (try simp only [Act.put, List.setIfInBounds_toArray, List.set_cons_zero, List.set_cons_succ]))
                        | fail
                      first
                        | (refine wpAnyH_take (i := 12) (v := ?_) rfl (by kernel_rfl) (by kernel_rfl) (by kernel_rfl) (fun _ _ _ h => h) (Or.inl ⟨by rfl, ?_⟩) (by assumption) ?_
                           rotate_left
                           · (intro w hSw; (try dsimp only at hSw); first | (go_simp; done) | (go_simp; with_reducible rfl))
                           (try simp only [Act.put, List.setIfInBounds_toArray, List.set_cons_zero, List.set_cons_succ]))
                        | fail
                      refine wpAnyH_done (by kernel_rfl) ?_ _
                      go_wp2_with fail
                      exact ⟨⟨k2 + 1, [], 2, by omega, by go_num, HN, hBn, S6⟩, by simp [intOf]; omega⟩
                by_cases kk5 : f.kind = 5
                · have e5 : (f.kind == 5) = true := by simpa using kk5
                  have n1 : (f.kind == 1) = false := by simpa using kk1
                  have n2 : (f.kind == 2) = false := by simpa using kk2
                  have n3 : (f.kind == 3) = false := by simpa using kk3
                  have n4 : (f.kind == 4) = false := by simpa using kk4
                  rcases hstep with ⟨hW, r, rfl, rfl, hN⟩ | ⟨hW, hD, hN⟩
                  · have T1 := Lib.hid (rd_bytes hgf hlf kk5 r)
                    have HN := Lib.hid hN
                    have hBr : Bytes r := fun x hx => hB2 x (by simp [hx])
                    clear kk1 kk2 kk3 kk4 kk5 hN HI2
                    go_wp2_with fail
                    refine wp_region_held_drew (S := fun w' => w'.cell? ⟨b, off + k2 * 35 + 2, none⟩ = some (.slice f.ao f.len f.cap)) (by kernel_rfl) (HC2.out _ S4.drew.below) (fun hHeld => ?_)
                    first
                      | (refine wpAnyH_take (i := 0) (v := ?_) rfl (by kernel_rfl) (by kernel_rfl) (by kernel_rfl) (fun _ _ _ h => h) (Or.inl ⟨by rfl, ?_⟩) (by assumption) ?_
                         rotate_left
                         · (intro w hSw; (try dsimp only at hSw); first | (go_simp; done) | (go_simp; with_reducible rfl))
                         (try simp only [Act.put, List.setIfInBounds_toArray, List.set_cons_zero, List.set_cons_succ]))
                      | fail
                    first
                      | (refine wpAnyH_take (i := 2) (v := ?_) rfl (by kernel_rfl) (by kernel_rfl) (by kernel_rfl) (fun _ _ _ h => h) (Or.inl ⟨by rfl, ?_⟩) (by assumption) ?_
                         rotate_left
                         · (intro w hSw; (try dsimp only at hSw); first | (go_simp; done) | (go_simp; with_reducible rfl))
                         (try simp only [Act.put, List.setIfInBounds_toArray, List.set_cons_zero, List.set_cons_succ]))
                      | fail
                    first
                      | (refine wpAnyH_take (i := 3) (v := ?_) rfl (by kernel_rfl) (by kernel_rfl) (by kernel_rfl) (fun _ _ _ h => h) (Or.inl ⟨by rfl, ?_⟩) (by assumption) ?_
                         rotate_left
                         · (intro w hSw; (try dsimp only at hSw); first | (go_simp; done) | (go_simp; with_reducible rfl))
                         (try simp only [Act.put, List.setIfInBounds_toArray, List.set_cons_zero, List.set_cons_succ]))
                      | fail
                    first
                      | (refine wpAnyH_take (i := 4) (v := ?_) rfl (by kernel_rfl) (by kernel_rfl) (by kernel_rfl) (fun _ _ _ h => h) (Or.inl ⟨by rfl, ?_⟩) (by assumption) ?_
                         rotate_left
                         · (intro w hSw; (try dsimp only at hSw); first | (go_simp; done) | (go_simp; with_reducible rfl))
                         (try simp only [Act.put, List.setIfInBounds_toArray, List.set_cons_zero, List.set_cons_succ]))
                      | fail
                    first
                      | (refine wpAnyH_take (i := 5) (v := ?_) rfl (by kernel_rfl) (by kernel_rfl) (by kernel_rfl) (fun _ _ _ h => h) (Or.inl ⟨by rfl, ?_⟩) (by assumption) ?_
                         rotate_left
                         · (intro w hSw; (try dsimp only at hSw); first | (go_simp; done) | (go_simp; with_reducible rfl))
                         (try simp only [Act.put, List.setIfInBounds_toArray, List.set_cons_zero, List.set_cons_succ]))
                      | fail
                    first
                      | (refine wpAnyH_take (i := 6) (v := ?_) rfl (by kernel_rfl) (by kernel_rfl) (by kernel_rfl) (fun _ _ _ h => h) (Or.inl ⟨by rfl, ?_⟩) (by assumption) ?_
                         rotate_left
                         · (intro w hSw; (try dsimp only at hSw); first | (go_simp; done) | (go_simp; with_reducible rfl))
                         (try simp only [Act.put, List.setIfInBounds_toArray, List.set_cons_zero, List.set_cons_succ]))
                      | fail
                    refine wpAnyH_ready (rs := [1]) (by kernel_rfl) (by simp) ?_
                    refine AllReadyH.cons rfl (fun K hK => ?_) AllReadyH.nil
                    go_simp
                    go_at_call 23
                    refine (rBytes_any S4.drew hB2).mono ?_
                    unfold Bytesd
                    rintro e w5 ⟨ao5, cap5, xs5, HX5, rfl, S5⟩
                    rw [T1.out] at S5 HX5
                    obtain rfl : xs5 = f.bs := HX5.out
                    clear HX5
                    go_wp2_with fail
                    refine hK.out _ _ (HC2.out _ S5.below) (fun hHeld2 => ?_)
                    clear hK K hHeld
                    try simp only [Act.put, List.setIfInBounds_toArray, List.set_cons_zero, List.set_cons_succ]
                    refine wpAnyH_ready (rs := [7]) (by kernel_rfl) (by simp) ?_
                    refine AllReadyH.cons rfl (fun K hK => ?_) AllReadyH.nil
                    go_simp
                    go_at_call 17
                    refine (same_any (sbs_rd S5).1 (hgf.rd.below S5.below) rfl hgf.len (by have := hgf.len; omega) (by omega)).mono ?_
                    rintro e w6 ⟨rfl, hq⟩
                    rw [decide_eq_true rfl]
                    have S6 := S5.tail.quiet hq
                    clear hq
                    go_wp2_with fail
                    refine hK.out _ _ (HC2.out _ S6.below) (fun hHeld3 => ?_)
                    clear hK K hHeld2
                    try simp only [Act.put, List.setIfInBounds_toArray, List.set_cons_zero, List.set_cons_succ]
                    first
                      | (refine wpAnyH_take (i := 8) (v := ?_) rfl (by kernel_rfl) (by kernel_rfl) (by kernel_rfl) (fun _ _ _ h => h) (Or.inl ⟨by rfl, ?_⟩) (by assumption) ?_
                         rotate_left
                         · (intro w hSw; (try dsimp only at hSw); first | (go_simp; done) | (go_simp; with_reducible rfl))
                         (try simp only [Act.put, List.setIfInBounds_toArray, List.set_cons_zero, List.set_cons_succ]))
                      | fail
                    first
                      | (refine wpAnyH_take (i := 9) (v := undef) rfl (by kernel_rfl) (by kernel_rfl) (by kernel_rfl) (fun _ _ _ h => h) (Or.inr ⟨by rfl, rfl⟩) (by assumption) ?_
                         (try simp only [Act.put, List.setIfInBounds_toArray, List.set_cons_zero, List.set_cons_succ]))
                      | fail
                    first
                      | (refine wpAnyH_take (i := 10) (v := undef) rfl (by kernel_rfl) (by kernel_rfl) (by kernel_rfl) (fun _ _ _ h => h) (Or.inr ⟨by rfl, rfl⟩) (by assumption) ?_
                         (try simp only [Act.put, List.setIfInBounds_toArray, List.set_cons_zero, List.set_cons_succ]))
                      | fail
                    first
                      | (refine wpAnyH_take (i := 11) (v := ?_) rfl (by kernel_rfl) (by kernel_rfl) (by kernel_rfl) (fun _ _ _ h => h) (Or.inl ⟨by rfl, ?_⟩) (by assumption) ?_
                         rotate_left
                         · (intro w hSw; (try dsimp only at hSw); first | (go_simp; done) | (go_simp; with_reducible rfl))
                         (try simp only [Act.put, List.setIfInBounds_toArray, List.set_cons_zero, List.set_cons_succ]))
                      | fail
                    first
                      | (refine wpAnyH_take (i := 12) (v := ?_) rfl (by kernel_rfl) (by kernel_rfl) (by kernel_rfl) (fun _ _ _ h => h) (Or.inl ⟨by rfl, ?_⟩) (by assumption) ?_
                         rotate_left
                         · (intro w hSw; (try dsimp only at hSw); first | (go_simp; done) | (go_simp; with_reducible rfl))
                         (try simp only [Act.put, List.setIfInBounds_toArray, List.set_cons_zero, List.set_cons_succ]))
                      | fail
                    refine wpAnyH_done (by kernel_rfl) ?_ _
                    go_wp2_with fail
                    exact ⟨⟨k2 + 1, r, 0, by omega, by go_num, HN, hBr, S6⟩, by simp [intOf]; omega⟩
                  · have T1 := Lib.hid (dead_bytes hgf hlf hD kk5)
                    have HN := Lib.hid hN
                    have hBn : Bytes [] := fun x hx => by simp at hx
                    have hc0 := HC2.out _ S4.drew.below
                    clear kk1 kk2 kk3 kk4 kk5 hN HI2 hD
                    cases hbb : decide (([] : List Int) = f.bs)
                    · have HBB := Lib.hid hbb
                      clear hbb
                      go_wp2_with fail
                      go_region_held3 (fun w' => w'.cell? ⟨b, off + k2 * 35 + 2, none⟩ = some (.slice f.ao f.len f.cap))
                        (first
                          | go_keep
                          | exact HC2.out _ S4.drew.below
                          | exact HC2.out _ S6.below
                          | exact HC2.out _ S5.below)
                        (first
                          | (go_at_call 17; refine (same_any (xs := []) (sbs_rd S5).1 (hgf.rd.below S5.below) rfl hgf.len (by simp) (by omega)).mono ?_; rintro e w6 ⟨rfl, hq⟩; rw [HBB.out]; have S6 := S5.tail.quiet hq; clear hq)
                          | (go_at_call 23; refine (rBytes_any S4.drew hB2).mono ?_; unfold Bytesd; rintro e w5 ⟨ao5, cap5, xs5, HX5, rfl, S5⟩; rw [T1.out] at S5 HX5; obtain rfl : xs5 = [] := HX5.out; clear HX5))
                      go_wp2_with fail
                      exact ⟨⟨k2 + 1, [], 2, by omega, by go_num, HN, hBn, S6⟩, by simp [intOf]; omega⟩
                    · have HBB := Lib.hid hbb
                      clear hbb
                      go_wp2_with fail
                      refine wp_region_held_drew (S := fun w' => w'.cell? ⟨b, off + k2 * 35 + 2, none⟩ = some (.slice f.ao f.len f.cap)) (by kernel_rfl) (HC2.out _ S4.drew.below) (fun hHeld => ?_)
                      first
                        | (refine wpAnyH_take (i := 0) (v := ?_) rfl (by kernel_rfl) (by kernel_rfl) (by kernel_rfl) (fun _ _ _ h => h) (Or.inl ⟨by rfl, ?_⟩) (by assumption) ?_
                           rotate_left
                           · (intro w hSw; (try dsimp only at hSw); first | (go_simp; done) | (go_simp; with_reducible rfl))
                           (try simp only [Act.put, List.setIfInBounds_toArray, List.set_cons_zero, List.set_cons_succ]))
                        | fail
                      first
                        | (refine wpAnyH_take (i := 2) (v := ?_) rfl (by kernel_rfl) (by kernel_rfl) (by kernel_rfl) (fun _ _ _ h => h) (Or.inl ⟨by rfl, ?_⟩) (by assumption) ?_
                           rotate_left
                           · (intro w hSw; (try dsimp only at hSw); first | (go_simp; done) | (go_simp; with_reducible rfl))
                           (try simp only [Act.put, List.setIfInBounds_toArray, List.set_cons_zero, List.set_cons_succ]))
                        | fail
                      first
                        | (refine wpAnyH_take (i := 3) (v := ?_) rfl (by kernel_rfl) (by kernel_rfl) (by kernel_rfl) (fun _ _ _ h => h) (Or.inl ⟨by rfl, ?_⟩) (by assumption) ?_
                           rotate_left
                           · (intro w hSw; (try dsimp only at hSw); first | (go_simp; done) | (go_simp; with_reducible rfl))
                           (try simp only [Act.put, List.setIfInBounds_toArray, List.set_cons_zero, List.set_cons_succ]))
                        | fail
                      first
                        | (refine wpAnyH_take (i := 4) (v := ?_) rfl (by kernel_rfl) (by kernel_rfl) (by kernel_rfl) (fun _ _ _ h => h) (Or.inl ⟨by rfl, ?_⟩) (by assumption) ?_
                           rotate_left
                           · (intro w hSw; (try dsimp only at hSw); first | (go_simp; done) | (go_simp; with_reducible rfl))
                           (try simp only [Act.put, List.setIfInBounds_toArray, List.set_cons_zero, List.set_cons_succ]))
                        | fail
                      first
                        | (refine wpAnyH_take (i := 5) (v := ?_) rfl (by kernel_rfl) (by kernel_rfl) (by kernel_rfl) (fun _ _ _ h => h) (Or.inl ⟨by rfl, ?_⟩) (by assumption) ?_
                           rotate_left
                           · (intro w hSw; (try dsimp only at hSw); first | (go_simp; done) | (go_simp; with_reducible rfl))
                           (try simp only [Act.put, List.setIfInBounds_toArray, List.set_cons_zero, List.set_cons_succ]))
                        | fail
                      first
                        | (refine wpAnyH_take (i := 6) (v := ?_) rfl (by kernel_rfl) (by kernel_rfl) (by kernel_rfl) (fun _ _ _ h => h) (Or.inl ⟨by rfl, ?_⟩) (by assumption) ?_
                           rotate_left
                           · (intro w hSw; (try dsimp only at hSw); first | (go_simp; done) | (go_simp; with_reducible rfl))
                           (try simp only [Act.put, List.setIfInBounds_toArray, List.set_cons_zero, List.set_cons_succ]))
                        | fail
                      refine wpAnyH_ready (rs := [1]) (by kernel_rfl) (by simp) ?_
                      refine AllReadyH.cons rfl (fun K hK => ?_) AllReadyH.nil
                      go_simp
                      go_at_call 23
                      refine (rBytes_any S4.drew hB2).mono ?_
                      unfold Bytesd
                      rintro e w5 ⟨ao5, cap5, xs5, HX5, rfl, S5⟩
                      rw [T1.out] at S5 HX5
                      obtain rfl : xs5 = [] := HX5.out
                      clear HX5
                      go_wp2_with fail
                      refine hK.out _ _ (HC2.out _ S5.below) (fun hHeld2 => ?_)
                      clear hK K hHeld
                      try simp only [Act.put, List.setIfInBounds_toArray, List.set_cons_zero, List.set_cons_succ]
                      refine wpAnyH_ready (rs := [7]) (by kernel_rfl) (by simp) ?_
                      refine AllReadyH.cons rfl (fun K hK => ?_) AllReadyH.nil
                      go_simp
                      go_at_call 17
                      refine (same_any (xs := []) (sbs_rd S5).1 (hgf.rd.below S5.below) rfl hgf.len (by simp) (by omega)).mono ?_
                      rintro e w6 ⟨rfl, hq⟩
                      rw [HBB.out]
                      have S6 := S5.tail.quiet hq
                      clear hq
                      go_wp2_with fail
                      refine hK.out _ _ (HC2.out _ S6.below) (fun hHeld3 => ?_)
                      clear hK K hHeld2
                      try simp only [Act.put, List.setIfInBounds_toArray, List.set_cons_zero, List.set_cons_succ]
                      first
                        | (refine wpAnyH_take (i := 8) (v := ?_) rfl (by kernel_rfl) (by kernel_rfl) (by kernel_rfl) (fun _ _ _ h => h) (Or.inl ⟨by rfl, ?_⟩) (by assumption) ?_
                           rotate_left
                           · (intro w hSw; (try dsimp only at hSw); first | (go_simp; done) | (go_simp; with_reducible rfl))
                           (try simp only [Act.put, List.setIfInBounds_toArray, List.set_cons_zero, List.set_cons_succ]))
                        | fail
                      first
                        | (refine wpAnyH_take (i := 9) (v := undef) rfl (by kernel_rfl) (by kernel_rfl) (by kernel_rfl) (fun _ _ _ h => h) (Or.inr ⟨by rfl, rfl⟩) (by assumption) ?_
                           (try simp only [Act.put, List.setIfInBounds_toArray, List.set_cons_zero, List.set_cons_succ]))
                        | fail
                      first
                        | (refine wpAnyH_take (i := 10) (v := undef) rfl (by kernel_rfl) (by kernel_rfl) (by kernel_rfl) (fun _ _ _ h => h) (Or.inr ⟨by rfl, rfl⟩) (by assumption) ?_
                           (try simp only [Act.put, List.setIfInBounds_toArray, List.set_cons_zero, List.set_cons_succ]))
                        | fail
                      first
                        | (refine wpAnyH_take (i := 11) (v := ?_) rfl (by kernel_rfl) (by kernel_rfl) (by kernel_rfl) (fun _ _ _ h => h) (Or.inl ⟨by rfl, ?_⟩) (by assumption) ?_
                           rotate_left
                           · (intro w hSw; (try dsimp only at hSw); first | (go_simp; done) | (go_simp; with_reducible rfl))
                           (try simp only [Act.put, List.setIfInBounds_toArray, List.set_cons_zero, List.set_cons_succ]))
                        | fail
                      first
                        | (refine wpAnyH_take (i := 12) (v := ?_) rfl (by kernel_rfl) (by kernel_rfl) (by kernel_rfl) (fun _ _ _ h => h) (Or.inl ⟨by rfl, ?_⟩) (by assumption) ?_
                           rotate_left
                           · (intro w hSw; (try dsimp only at hSw); first | (go_simp; done) | (go_simp; with_reducible rfl))
                           (try simp only [Act.put, List.setIfInBounds_toArray, List.set_cons_zero, List.set_cons_succ]))
                        | fail
                      refine wpAnyH_done (by kernel_rfl) ?_ _
                      go_wp2_with fail
                      exact ⟨⟨k2 + 1, [], 2, by omega, by go_num, HN, hBn, S6⟩, by simp [intOf]; omega⟩
                have n1 : (f.kind == 1) = false := by simpa using kk1
                have n2 : (f.kind == 2) = false := by simpa using kk2
                have n3 : (f.kind == 3) = false := by simpa using kk3
                have n4 : (f.kind == 4) = false := by simpa using kk4
                have n5 : (f.kind == 5) = false := by simpa using kk5
                have hgd := Try.noGuardH
                have uH := Try.underlying42
                have iH : (Try.prog.info? 42).map (·.size) = some (bv f.h).length := by rw [bv_length, hgf.h]; exact Try.sizeH
                rcases hstep with ⟨hW, r, rfl, rfl, hN⟩ | ⟨hW, hD, hN⟩
                · have T1 := Lib.hid (rd_hash hgf kk1 kk2 kk3 kk4 kk5 r)
                  have HN := Lib.hid hN
                  have hBr : Bytes r := fun x hx => hB2 x (by simp [hx])
                  have hq := fun w => eql_hash w f.h hgf.h
                  clear kk1 kk2 kk3 kk4 kk5 hN HI2
                  go_wp2_with fail
                  refine wp_region_held_drew (S := fun w' => w'.rangeAt b (off + k2 * 35 + 3) (bv f.h)) (by kernel_rfl) (HC3.out _ S4.drew.below) (fun hHeld => ?_)
                  first
                    | (refine wpAnyH_take (i := 0) (v := ?_) rfl (by kernel_rfl) (by kernel_rfl) (by kernel_rfl) (fun _ _ _ h => h) (Or.inl ⟨by rfl, ?_⟩) (by assumption) ?_
                       rotate_left
                       · (intro w hSw; first | (go_simp; done) | (go_simp; with_reducible rfl))
                       (try simp only [Act.put, List.setIfInBounds_toArray, List.set_cons_zero, List.set_cons_succ]))
                    | fail
                  first
                    | (refine wpAnyH_take (i := 2) (v := ?_) rfl (by kernel_rfl) (by kernel_rfl) (by kernel_rfl) (fun _ _ _ h => h) (Or.inl ⟨by rfl, ?_⟩) (by assumption) ?_
                       rotate_left
                       · (intro w hSw; first | (go_simp; done) | (go_simp; with_reducible rfl))
                       (try simp only [Act.put, List.setIfInBounds_toArray, List.set_cons_zero, List.set_cons_succ]))
                    | fail
                  first
                    | (refine wpAnyH_take (i := 3) (v := ?_) rfl (by kernel_rfl) (by kernel_rfl) (by kernel_rfl) (fun _ _ _ h => h) (Or.inl ⟨by rfl, ?_⟩) (by assumption) ?_
                       rotate_left
                       · (intro w hSw; first | (go_simp; done) | (go_simp; with_reducible rfl))
                       (try simp only [Act.put, List.setIfInBounds_toArray, List.set_cons_zero, List.set_cons_succ]))
                    | fail
                  first
                    | (refine wpAnyH_take (i := 4) (v := ?_) rfl (by kernel_rfl) (by kernel_rfl) (by kernel_rfl) (fun _ _ _ h => h) (Or.inl ⟨by rfl, ?_⟩) (by assumption) ?_
                       rotate_left
                       · (intro w hSw; first | (go_simp; done) | (go_simp; with_reducible rfl))
                       (try simp only [Act.put, List.setIfInBounds_toArray, List.set_cons_zero, List.set_cons_succ]))
                    | fail
                  first
                    | (refine wpAnyH_take (i := 5) (v := ?_) rfl (by kernel_rfl) (by kernel_rfl) (by kernel_rfl) (fun _ _ _ h => h) (Or.inl ⟨by rfl, ?_⟩) (by assumption) ?_
                       rotate_left
                       · (intro w hSw; first | (go_simp; done) | (go_simp; with_reducible rfl))
                       (try simp only [Act.put, List.setIfInBounds_toArray, List.set_cons_zero, List.set_cons_succ]))
                    | fail
                  refine wpAnyH_take (i := 6) rfl (by kernel_rfl) (by kernel_rfl) (by kernel_rfl) (fun _ _ _ h => h) (yieldsIf_load_mid (by rfl) _ _ rfl _ _ rfl (bv f.h) _ (fun _ h => h) uH rfl iH) (by assumption) ?_
                  try simp only [Act.put, List.setIfInBounds_toArray, List.set_cons_zero, List.set_cons_succ]
                  refine wpAnyH_ready (rs := [1]) (by kernel_rfl) (by simp) ?_
                  refine AllReadyH.cons rfl (fun K hK => ?_) AllReadyH.nil
                  go_simp
                  go_at_call 29
                  refine (rHash_any S4.drew).mono ?_
                  unfold Hashed
                  rintro e w5 ⟨rfl, S6⟩
                  rw [T1.out] at S6 ⊢
                  go_wp2_with fail
                  refine hK.out _ _ (HC3.out _ S6.below) (fun hHeld2 => ?_)
                  clear hK K hHeld
                  try simp only [Act.put, List.setIfInBounds_toArray, List.set_cons_zero, List.set_cons_succ]
                  first
                    | (refine wpAnyH_take (i := 7) (v := ?_) rfl (by kernel_rfl) (by kernel_rfl) (by kernel_rfl) (fun _ _ _ h => h) (Or.inl ⟨by rfl, ?_⟩) (by assumption) ?_
                       rotate_left
                       · (intro w hSw; first | (go_simp; done) | (go_simp; with_reducible rfl))
                       (try simp only [Act.put, List.setIfInBounds_toArray, List.set_cons_zero, List.set_cons_succ]))
                    | fail
                  first
                    | (refine wpAnyH_take (i := 8) (v := ?_) rfl (by kernel_rfl) (by kernel_rfl) (by kernel_rfl) (fun _ _ _ h => h) (Or.inl ⟨by rfl, ?_⟩) (by assumption) ?_
                       rotate_left
                       · (intro w hSw; first | (go_simp; done) | (go_simp; with_reducible rfl))
                       (try simp only [Act.put, List.setIfInBounds_toArray, List.set_cons_zero, List.set_cons_succ]))
                    | fail
                  first
                    | (refine wpAnyH_take (i := 9) (v := undef) rfl (by kernel_rfl) (by kernel_rfl) (by kernel_rfl) (fun _ _ _ h => h) (Or.inr ⟨by rfl, rfl⟩) (by assumption) ?_
                       (try simp only [Act.put, List.setIfInBounds_toArray, List.set_cons_zero, List.set_cons_succ]))
                    | fail
                  first
                    | (refine wpAnyH_take (i := 10) (v := undef) rfl (by kernel_rfl) (by kernel_rfl) (by kernel_rfl) (fun _ _ _ h => h) (Or.inr ⟨by rfl, rfl⟩) (by assumption) ?_
                       (try simp only [Act.put, List.setIfInBounds_toArray, List.set_cons_zero, List.set_cons_succ]))
                    | fail
                  first
                    | (refine wpAnyH_take (i := 11) (v := ?_) rfl (by kernel_rfl) (by kernel_rfl) (by kernel_rfl) (fun _ _ _ h => h) (Or.inl ⟨by rfl, ?_⟩) (by assumption) ?_
                       rotate_left
                       · (intro w hSw; first | (go_simp; done) | (go_simp; with_reducible rfl))
                       (try simp only [Act.put, List.setIfInBounds_toArray, List.set_cons_zero, List.set_cons_succ]))
                    | fail
                  first
                    | (refine wpAnyH_take (i := 12) (v := ?_) rfl (by kernel_rfl) (by kernel_rfl) (by kernel_rfl) (fun _ _ _ h => h) (Or.inl ⟨by rfl, ?_⟩) (by assumption) ?_
                       rotate_left
                       · (intro w hSw; first | (go_simp; done) | (go_simp; with_reducible rfl))
                       (try simp only [Act.put, List.setIfInBounds_toArray, List.set_cons_zero, List.set_cons_succ]))
                    | fail
                  refine wpAnyH_done (by kernel_rfl) ?_ _
                  go_wp2_with fail
                  exact ⟨⟨k2 + 1, r, 0, by omega, by go_num, HN, hBr, S6⟩, by simp [intOf]; omega⟩
                · have T1 := Lib.hid (dead_hash hgf hD kk1 kk2 kk3 kk4 kk5)
                  have HN := Lib.hid hN
                  have hBn : Bytes [] := fun x hx => by simp at hx
                  have hq := fun w => eql_any w zeros32 f.h rfl hgf.h
                  clear kk1 kk2 kk3 kk4 kk5 hN HI2 hD
                  cases hbb : decide (zeros32 = f.h)
                  · rw [hbb] at hq
                    clear hbb
                    have hc0 := HC3.out _ S4.drew.below
                    go_wp2_with fail
                    go_region_held3 (fun w' => w'.rangeAt b (off + k2 * 35 + 3) (bv f.h))
                      (first
                        | go_keep
                        | exact HC3.out _ S4.drew.below
                        | exact HC3.out _ S6.below)
                      (first
                        | (go_at_call 29; refine (rHash_any S4.drew).mono ?_; unfold Hashed; rintro e w5 ⟨rfl, S6⟩; rw [T1.out] at S6 ⊢))
                    go_wp2_with fail
                    exact ⟨⟨k2 + 1, [], 2, by omega, by go_num, HN, hBn, S6⟩, by simp [intOf]; omega⟩
                  · rw [hbb] at hq
                    clear hbb
                    go_wp2_with fail
                    refine wp_region_held_drew (S := fun w' => w'.rangeAt b (off + k2 * 35 + 3) (bv f.h)) (by kernel_rfl) (HC3.out _ S4.drew.below) (fun hHeld => ?_)
                    first
                      | (refine wpAnyH_take (i := 0) (v := ?_) rfl (by kernel_rfl) (by kernel_rfl) (by kernel_rfl) (fun _ _ _ h => h) (Or.inl ⟨by rfl, ?_⟩) (by assumption) ?_
                         rotate_left
                         · (intro w hSw; first | (go_simp; done) | (go_simp; with_reducible rfl))
                         (try simp only [Act.put, List.setIfInBounds_toArray, List.set_cons_zero, List.set_cons_succ]))
                      | fail
                    first
                      | (refine wpAnyH_take (i := 2) (v := ?_) rfl (by kernel_rfl) (by kernel_rfl) (by kernel_rfl) (fun _ _ _ h => h) (Or.inl ⟨by rfl, ?_⟩) (by assumption) ?_
                         rotate_left
                         · (intro w hSw; first | (go_simp; done) | (go_simp; with_reducible rfl))
                         (try simp only [Act.put, List.setIfInBounds_toArray, List.set_cons_zero, List.set_cons_succ]))
                      | fail
                    first
                      | (refine wpAnyH_take (i := 3) (v := ?_) rfl (by kernel_rfl) (by kernel_rfl) (by kernel_rfl) (fun _ _ _ h => h) (Or.inl ⟨by rfl, ?_⟩) (by assumption) ?_
                         rotate_left
                         · (intro w hSw; first | (go_simp; done) | (go_simp; with_reducible rfl))
                         (try simp only [Act.put, List.setIfInBounds_toArray, List.set_cons_zero, List.set_cons_succ]))
                      | fail
                    first
                      | (refine wpAnyH_take (i := 4) (v := ?_) rfl (by kernel_rfl) (by kernel_rfl) (by kernel_rfl) (fun _ _ _ h => h) (Or.inl ⟨by rfl, ?_⟩) (by assumption) ?_
                         rotate_left
                         · (intro w hSw; first | (go_simp; done) | (go_simp; with_reducible rfl))
                         (try simp only [Act.put, List.setIfInBounds_toArray, List.set_cons_zero, List.set_cons_succ]))
                      | fail
                    first
                      | (refine wpAnyH_take (i := 5) (v := ?_) rfl (by kernel_rfl) (by kernel_rfl) (by kernel_rfl) (fun _ _ _ h => h) (Or.inl ⟨by rfl, ?_⟩) (by assumption) ?_
                         rotate_left
                         · (intro w hSw; first | (go_simp; done) | (go_simp; with_reducible rfl))
                         (try simp only [Act.put, List.setIfInBounds_toArray, List.set_cons_zero, List.set_cons_succ]))
                      | fail
                    refine wpAnyH_take (i := 6) rfl (by kernel_rfl) (by kernel_rfl) (by kernel_rfl) (fun _ _ _ h => h) (yieldsIf_load_mid (by rfl) _ _ rfl _ _ rfl (bv f.h) _ (fun _ h => h) uH rfl iH) (by assumption) ?_
                    try simp only [Act.put, List.setIfInBounds_toArray, List.set_cons_zero, List.set_cons_succ]
                    refine wpAnyH_ready (rs := [1]) (by kernel_rfl) (by simp) ?_
                    refine AllReadyH.cons rfl (fun K hK => ?_) AllReadyH.nil
                    go_simp
                    go_at_call 29
                    refine (rHash_any S4.drew).mono ?_
                    unfold Hashed
                    rintro e w5 ⟨rfl, S6⟩
                    rw [T1.out] at S6 ⊢
                    go_wp2_with fail
                    refine hK.out _ _ (HC3.out _ S6.below) (fun hHeld2 => ?_)
                    clear hK K hHeld
                    try simp only [Act.put, List.setIfInBounds_toArray, List.set_cons_zero, List.set_cons_succ]
                    first
                      | (refine wpAnyH_take (i := 7) (v := ?_) rfl (by kernel_rfl) (by kernel_rfl) (by kernel_rfl) (fun _ _ _ h => h) (Or.inl ⟨by rfl, ?_⟩) (by assumption) ?_
                         rotate_left
                         · (intro w hSw; first | (go_simp; done) | (go_simp; with_reducible rfl))
                         (try simp only [Act.put, List.setIfInBounds_toArray, List.set_cons_zero, List.set_cons_succ]))
                      | fail
                    first
                      | (refine wpAnyH_take (i := 8) (v := ?_) rfl (by kernel_rfl) (by kernel_rfl) (by kernel_rfl) (fun _ _ _ h => h) (Or.inl ⟨by rfl, ?_⟩) (by assumption) ?_
                         rotate_left
                         · (intro w hSw; first | (go_simp; done) | (go_simp; with_reducible rfl))
                         (try simp only [Act.put, List.setIfInBounds_toArray, List.set_cons_zero, List.set_cons_succ]))
                      | fail
                    first
                      | (refine wpAnyH_take (i := 9) (v := undef) rfl (by kernel_rfl) (by kernel_rfl) (by kernel_rfl) (fun _ _ _ h => h) (Or.inr ⟨by rfl, rfl⟩) (by assumption) ?_
                         (try simp only [Act.put, List.setIfInBounds_toArray, List.set_cons_zero, List.set_cons_succ]))
                      | fail
                    first
                      | (refine wpAnyH_take (i := 10) (v := undef) rfl (by kernel_rfl) (by kernel_rfl) (by kernel_rfl) (fun _ _ _ h => h) (Or.inr ⟨by rfl, rfl⟩) (by assumption) ?_
                         (try simp only [Act.put, List.setIfInBounds_toArray, List.set_cons_zero, List.set_cons_succ]))
                      | fail
                    first
                      | (refine wpAnyH_take (i := 11) (v := ?_) rfl (by kernel_rfl) (by kernel_rfl) (by kernel_rfl) (fun _ _ _ h => h) (Or.inl ⟨by rfl, ?_⟩) (by assumption) ?_
                         rotate_left
                         · (intro w hSw; first | (go_simp; done) | (go_simp; with_reducible rfl))
                         (try simp only [Act.put, List.setIfInBounds_toArray, List.set_cons_zero, List.set_cons_succ]))
                      | fail
                    first
                      | (refine wpAnyH_take (i := 12) (v := ?_) rfl (by kernel_rfl) (by kernel_rfl) (by kernel_rfl) (fun _ _ _ h => h) (Or.inl ⟨by rfl, ?_⟩) (by assumption) ?_
                         rotate_left
                         · (intro w hSw; first | (go_simp; done) | (go_simp; with_reducible rfl))
                         (try simp only [Act.put, List.setIfInBounds_toArray, List.set_cons_zero, List.set_cons_succ]))
                      | fail
                    refine wpAnyH_done (by kernel_rfl) ?_ _
                    go_wp2_with fail
                    exact ⟨⟨k2 + 1, [], 2, by omega, by go_num, HN, hBn, S6⟩, by simp [intOf]; omega⟩
            · have e0 : l.take k2 = l := List.take_of_length_le (by omega)
              have hfin : bs2 = [] ∧ e2 = 2 := by
                rcases HI2.out with ⟨h1, _, _⟩ | ⟨_, h2, h3⟩
                · rw [e0, ← HBL.out] at h1; omega
                · exact ⟨h2, h3⟩
              obtain ⟨rfl, rfl⟩ := hfin
              have T1 := Lib.hid rdNum_dead
              clear e0
              go_wp2_with (first
                | (go_at_call 19; refine (rNum_any S4 hB2).mono ?_; unfold Nummed; rintro e w12 ⟨rfl, S5⟩; rw [T1.out] at S5 ⊢)
                | (go_at_call 20; refine (left_any S4).mono ?_; rintro e w11 ⟨rfl, rfl⟩)
                | (go_at_call 24; refine (end_any S4).mono ?_; rintro e w11 ⟨rfl, rfl⟩; rw [show endOf [] 2 = 2 from rfl])
                | (go_at_call 13; refine (known_any S5).mono ?_; rintro e w11 ⟨rfl, S11⟩))
              go_ret
              exact ⟨rfl, S11.below⟩
end Go.Proofs.Ytbkieoblhacngaa
