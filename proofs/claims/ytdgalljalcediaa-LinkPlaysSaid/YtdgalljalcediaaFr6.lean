/-
  The document's Reader: Bytes.
-/
import Derived.Test.YtdgalljalcediaaFR1N
import Derived.Test.YtdgalljalcediaaFRef1W
namespace Go.Proofs.Ytdgalljalcediaa
open Go.RowKit Go.Sep Go.Oct
set_option linter.unusedSimpArgs false

set_option maxRecDepth 100000 in
theorem raw_zero {W0 w : World} {L : List Asn} {p : Nat} {ao : Option Addr} {m cap : Nat} (hmc : m ≤ cap) (hcm : cap ≤ maxLen) (S : Sat W0 w (R1 p ao m cap 0 :: L)) :
    Calls Try.prog 58 #[.pointer (some ⟨p, 0, none⟩), .int .i64 0] w fun e w' => ∃ bo c, e = .returned (.slice bo 0 c) ∧ Sat W0 w' (R1 p ao m cap 0 :: L) := by
  have S' : Sat W0 w (blk p [.slice ao m cap, .int .i64 0] 82 :: L) := S
  have c0 := S'.cell 0 rfl 0
  have c1 := S'.cell 0 rfl 1
  have f0 := S'.frozen 0 rfl 0
  simp only [List.getElem?_cons_zero, List.getElem?_cons_succ] at c0 c1
  have hneg : decide ((m : Int) < 0) = false := decide_eq_false (by omega)
  have m0 : (0 : Int) ≤ (m : Int) := Int.natCast_nonneg _
  have cc0 : (0 : Int) ≤ (cap : Int) := Int.natCast_nonneg _
  have mc : (m : Int) ≤ (cap : Int) := by omega
  have S2 := S'.setCell 0 (k := 0) (v := .slice ao m cap) rfl
  cases ao with
  | none =>
    go_enter Try.func58, Try.ntmps58
    go_wp2_with fail
    go_ret
    exact ⟨_, _, rfl, S2⟩
  | some ad =>
    have hadd : ad.add 0 = ad := by obtain ⟨b, off, k⟩ := ad; cases k <;> simp [Addr.add]
    go_enter Try.func58, Try.ntmps58
    go_wp2_with fail
    go_ret
    exact ⟨_, _, rfl, S2⟩
theorem rdNumFrom_fails (d : Nat) : ∀ (k : Nat) (x : Int) (bs : List Int) (e : Int), 10 - k = d → (e ≠ 0 → bs = []) → (rdNumFrom k x bs e).2.2 ≠ 0 → (rdNumFrom k x bs e).1 = 0 ∧ (rdNumFrom k x bs e).2.1 = [] := by
  induction d with
  | zero =>
    intro k x bs e hd h0 h
    rw [rdNumFrom_ten (by omega)]
    exact ⟨rfl, rfl⟩
  | succ d ih =>
    intro k x bs e hd h0 h
    have hk : k < 10 := by omega
    by_cases he : e = 0
    · subst he
      cases bs with
      | nil => rw [rdNumFrom_nil hk]; exact ⟨rfl, rfl⟩
      | cons c r =>
        by_cases hb : (k = 9 ∧ 1 < c) ∨ (0 < k ∧ c = 0)
        · rw [rdNumFrom_bad hk hb]; exact ⟨rfl, rfl⟩
        · by_cases h8 : c < 128
          · rw [rdNumFrom_last hk hb h8] at h
            exact absurd rfl h
          · rw [rdNumFrom_more hk hb h8] at h ⊢
            exact ih _ _ _ _ (by omega) (fun h => absurd rfl h) h
    · rw [rdNumFrom_err hk he]
      exact ⟨rfl, h0 he⟩
theorem rdNum_fails {bs : List Int} {e : Int} (h0 : e ≠ 0 → bs = []) (h : (rdNum bs e).2.2 ≠ 0) : (rdNum bs e).1 = 0 ∧ (rdNum bs e).2.1 = [] := rdNumFrom_fails 10 0 0 bs e rfl h0 h

/-- what the document's Bytes gives: new memory, and the Reader behind it -/
def Byted (W0 : World) (K L : List Asn) (p : Nat) (r : List Int × List Int × Int) (e : Ending) (w' : World) : Prop :=
  ∃ bo bc ao' n' cap', Rest W0 K ao' n' cap' r.2.1 ∧ e = .returned (.slice bo r.1.length bc) ∧ Sat W0 w' (sbs bo r.1.length bc r.1 :: R1 p ao' n' cap' r.2.2 :: L)

set_option maxRecDepth 100000 in
set_option maxHeartbeats 3200000 in
theorem r1Bytes_any {W0 w : World} {K L : List Asn} (hK : ∀ w', Sat W0 w' L → Sat W0 w' K) {p : Nat} {ao : Option Addr} {m cap : Nat} {bs : List Int} {e0 : Int} (H : Rest W0 K ao m cap bs) (h0 : e0 ≠ 0 → bs = []) (S : Sat W0 w (R1 p ao m cap e0 :: L)) :
    Calls Try.prog 34 #[.pointer (some ⟨p, 0, none⟩)] w (Byted W0 K L p (rdBytes bs e0)) := by
  have HN := Lib.hid (r1Num_any hK H h0 S)
  have hfl := rdNum_fails h0
  have HR : Hid (rdBytes bs e0 = if (rdNum bs e0).1 < 0 ∨ 16777216 < (rdNum bs e0).1 then ([], [], 3) else tk (rdNum bs e0).1.toNat (rdNum bs e0).2.1 (rdNum bs e0).2.2) := by show rdBytes bs e0 = _; unfold rdBytes; rfl
  generalize rdBytes bs e0 = R at HR ⊢
  generalize rdNum bs e0 = D at HN HR hfl
  obtain ⟨v, bs2, e2⟩ := D
  simp only at hfl HR
  clear H h0
  by_cases he : e2 = 0
  case neg =>
    obtain ⟨rfl, rfl⟩ := hfl he
    have HR2 : Hid (R = ([], [], e2)) := by show R = _; rw [HR.out, if_neg (by omega)]; unfold tk; rw [if_pos he]
    have he1 : (e2 == 0) = false := by simpa using he
    have he2 : (e2 != 0) = true := by simpa using he
    clear HR he hfl
    go_enter Try.func34, Try.ntmps34
    go_wp2_with (first
      | (go_at_call 33; refine HN.out.mono ?_; unfold Given; rintro e w2 ⟨ao2, n2, c2, H2, rfl, S2⟩; have k1 : w2.cell? ⟨p, 1, none⟩ = some (.int .i64 e2) := Sat.cell S2 0 rfl 1))
    go_ret
    rw [HR2.out]
    exact ⟨none, 0, ao2, n2, c2, H2, rfl, Sat.own_none.2 ⟨rfl, rfl, rfl, S2⟩⟩
  subst he
  by_cases hbad : v < 0 ∨ 16777216 < v
  · have HR2 : Hid (R = ([], [], 3)) := by show R = _; rw [HR.out, if_pos hbad]
    clear HR hfl
    have hd1 : (decide (v < 0) || decide (16777216 < v)) = true := by simpa using hbad
    by_cases hv0 : v < 0
    · have hv0' : decide (v < 0) = true := decide_eq_true hv0
      clear hd1 hbad
      go_enter Try.func34, Try.ntmps34
      go_wp2_with (first
        | (go_at_call 33; refine HN.out.mono ?_; unfold Given; rintro e w2 ⟨ao2, n2, c2, H2, rfl, S2⟩; have k1 : w2.cell? ⟨p, 1, none⟩ = some (.int .i64 0) := Sat.cell S2 0 rfl 1; have k0 : w2.cell? ⟨p, 0, none⟩ = some (.slice ao2 n2 c2) := Sat.cell S2 0 rfl 0; have fr0 : w2.frozen? ⟨p, 0, none⟩ = false := Sat.frozen S2 0 rfl 0; have fr1 : w2.frozen? ⟨p, 1, none⟩ = false := Sat.frozen S2 0 rfl 1))
      go_ret
      rw [HR2.out]
      have S3 : Sat W0 _ (blk p [.slice none 0 0, .int .i64 3] 82 :: L) := (Sat.setCell (Sat.setCell S2 0 (k := 1) (v := .int .i64 3) rfl) 0 (k := 0) (v := .slice none 0 0) rfl)
      exact ⟨none, 0, none, 0, 0, r1_err, rfl, Sat.own_none.2 ⟨rfl, rfl, rfl, S3⟩⟩
    · have hv0' : decide (v < 0) = false := decide_eq_false hv0
      have hv1' : decide (16777216 < v) = true := decide_eq_true (by omega)
      clear hd1 hbad hv0
      go_enter Try.func34, Try.ntmps34
      go_wp2_with (first
        | (go_at_call 33; refine HN.out.mono ?_; unfold Given; rintro e w2 ⟨ao2, n2, c2, H2, rfl, S2⟩; have k1 : w2.cell? ⟨p, 1, none⟩ = some (.int .i64 0) := Sat.cell S2 0 rfl 1; have k0 : w2.cell? ⟨p, 0, none⟩ = some (.slice ao2 n2 c2) := Sat.cell S2 0 rfl 0; have fr0 : w2.frozen? ⟨p, 0, none⟩ = false := Sat.frozen S2 0 rfl 0; have fr1 : w2.frozen? ⟨p, 1, none⟩ = false := Sat.frozen S2 0 rfl 1))
      go_ret
      rw [HR2.out]
      have S3 : Sat W0 _ (blk p [.slice none 0 0, .int .i64 3] 82 :: L) := (Sat.setCell (Sat.setCell S2 0 (k := 1) (v := .int .i64 3) rfl) 0 (k := 0) (v := .slice none 0 0) rfl)
      exact ⟨none, 0, none, 0, 0, r1_err, rfl, Sat.own_none.2 ⟨rfl, rfl, rfl, S3⟩⟩
  · have hR1 := HR.out
    rw [if_neg hbad] at hR1
    obtain ⟨k, rfl⟩ : ∃ k : Nat, v = (k : Int) := ⟨v.toNat, by omega⟩
    rw [show (k : Int).toNat = k by omega] at hR1
    have hv0' : decide ((k : Int) < 0) = false := decide_eq_false (by omega)
    have hv1' : decide ((16777216 : Int) < (k : Int)) = false := decide_eq_false (by omega)
    have hk : k ≤ 16777216 := by omega
    clear HR hfl hbad
    by_cases hlen : bs2.length < k
    · have HR2 : Hid (R = ([], [], 2)) := by show R = _; rw [hR1, tk_short hlen]
      have HLN := Lib.hid hlen
      clear hR1 hlen
      go_enter Try.func34, Try.ntmps34
      go_wp2_with (first
        | (go_at_call 33; refine HN.out.mono ?_; unfold Given; rintro e w2 ⟨ao2, n2, c2, H2, rfl, S2⟩; have hkn : decide (n2 < k) = true := decide_eq_true (by have := H2.len; have := HLN.out; omega); have k1 : w2.cell? ⟨p, 1, none⟩ = some (.int .i64 0) := Sat.cell S2 0 rfl 1; have k0 : w2.cell? ⟨p, 0, none⟩ = some (.slice ao2 n2 c2) := Sat.cell S2 0 rfl 0; have fr0 : w2.frozen? ⟨p, 0, none⟩ = false := Sat.frozen S2 0 rfl 0; have fr1 : w2.frozen? ⟨p, 1, none⟩ = false := Sat.frozen S2 0 rfl 1))
      go_ret
      rw [HR2.out]
      have S3 : Sat W0 _ (blk p [.slice none 0 0, .int .i64 2] 82 :: L) := (Sat.setCell (Sat.setCell S2 0 (k := 1) (v := .int .i64 2) rfl) 0 (k := 0) (v := .slice none 0 0) rfl)
      exact ⟨none, 0, none, 0, 0, r1_err, rfl, Sat.own_none.2 ⟨rfl, rfl, rfl, S3⟩⟩
    · have hR2 := hR1
      rw [tk_enough hlen] at hR2
      have HLN := Lib.hid hlen
      obtain ⟨i0, hi, hz0, hz1, hz2⟩ := info_parts Try.infoB
      by_cases hk0 : k = 0
      · subst hk0
        have HR2 : Hid (R = ([], bs2, 0)) := by show R = _; rw [hR2]; rfl
        clear hR1 hR2 hlen
        go_enter Try.func34, Try.ntmps34
        go_wp2_with (first
          | (go_at_call 33; go_loud (refine HN.out.mono ?_; unfold Given; rintro e w2 ⟨ao2, n2, c2, H2, rfl, S2⟩); have hkn : decide (n2 < 0) = false := decide_eq_false (by have := H2.len; have := HLN.out; omega); have k1 : w2.cell? ⟨p, 1, none⟩ = some (.int .i64 0) := Sat.cell S2 0 rfl 1; have k0 : w2.cell? ⟨p, 0, none⟩ = some (.slice ao2 n2 c2) := Sat.cell S2 0 rfl 0; have S2n : Sat W0 (w2.alloc (.cells #[] 5)) (R1 p ao2 n2 c2 0 :: slc 5 1 (some ⟨w2.heap.size, 0, none⟩) 0 0 [] :: L) := (Sat.own_new (post := []) (Sat.alloc S2 [] 5) rfl (Nat.le_refl _) (by unfold maxLen; omega) (by simp)).swap)
          | (go_at_call 58; refine (raw_zero H2.le H2.top S2n).mono ?_; rintro e w3 ⟨bo, c3, rfl, S3⟩)
          | (at_builtin; refine wpList_append_sat rfl (.tmp 43) (.tmp 46) _ rfl 5 i0 (.int .u8 0) 1 1 Try.underlying29 hi hz0 hz1 hz2 rfl (by decide) S3.swap rfl rfl (Rd.nil _ _) rfl (by simp) (by unfold maxLen; omega) (by omega) ?_; intro ao4 cap4 w4 S4; simp only [Nat.zero_add, List.append_nil] at S4 ⊢))
        go_ret
        rw [HR2.out]
        exact ⟨ao4, cap4, ao2, n2, c2, H2, rfl, S4⟩
      · have HR2 : Hid (R = (bs2.take k, bs2.drop k, 0)) := hR2
        have hk1 : 1 ≤ k := by omega
        have hlk : (bs2.take k).length = k := by rw [List.length_take]; omega
        have HTK := Lib.hid (tk_enough hlen)
        clear hR1 hR2 hlen
        go_enter Try.func34, Try.ntmps34
        go_wp2_with (first
          | (go_at_call 33; refine HN.out.mono ?_; unfold Given; rintro e w2 ⟨ao2, n2, c2, H2, rfl, S2⟩; have hkn : decide (n2 < k) = false := decide_eq_false (by have := H2.len; have := HLN.out; omega); have k1 : w2.cell? ⟨p, 1, none⟩ = some (.int .i64 0) := Sat.cell S2 0 rfl 1; have k0 : w2.cell? ⟨p, 0, none⟩ = some (.slice ao2 n2 c2) := Sat.cell S2 0 rfl 0; have S2n : Sat W0 (w2.alloc (.cells #[] 5)) (R1 p ao2 n2 c2 0 :: slc 5 1 (some ⟨w2.heap.size, 0, none⟩) 0 0 [] :: L) := (Sat.own_new (post := []) (Sat.alloc S2 [] 5) rfl (Nat.le_refl _) (by unfold maxLen; omega) (by simp)).swap)
          | (go_at_call 58; go_loud (refine (raw_ok (fun w' h => hK w' h.tail) H2 S2n k hk1 (by have := H2.len; have := HLN.out; omega)).mono ?_); unfold Raw; rw [HTK.out]; rintro e w3 ⟨bo, c3, ao3, n3, c4, H3, rfl, h1, h2, hrd, S3⟩; rw [if_pos rfl] at hrd)
          | (at_builtin; refine wpList_append_sat rfl (.tmp 43) (.tmp 46) _ rfl 5 i0 (.int .u8 0) 1 1 Try.underlying29 hi hz0 hz1 hz2 rfl (by decide) S3.swap rfl rfl hrd (by rw [bv_length, hlk, Nat.mul_one]) (bv_one _) (by unfold maxLen; omega) (by omega) ?_; intro ao4 cap4 w4 S4; simp only [Nat.zero_add, List.nil_append] at S4 ⊢))
        go_ret
        rw [HR2.out]
        refine ⟨ao4, cap4, ao3, n3, c4, H3, ?_, ?_⟩
        · show Ending.returned (.slice ao4 k cap4) = Ending.returned (.slice ao4 (bs2.take k).length cap4)
          rw [hlk]
        · show Sat W0 _ (slc 5 1 ao4 (bs2.take k).length cap4 (bv (bs2.take k)) :: _)
          rw [hlk]
          exact S4
end Go.Proofs.Ytdgalljalcediaa
