/-
  The law WireSees, walked.
-/
import Derived.Test.YtlkmnbnphgfppaaWiJ
namespace Go.Proofs.Ytlkmnbnphgfppaa
open Go.RowKit Go.Sep Go.Oct
set_option linter.unusedSimpArgs false

theorem xor_u8_byte {x y : Int} (hx : 0 ≤ x ∧ x < 256) (hy : 0 ≤ y ∧ y < 256) : (0 ≤ bits .xor .u8 x y ∧ bits .xor .u8 x y < 256) ∧ (bits .xor .u8 x y = x → y = 0) := by
  rw [u8_xor _ _ hx.1 hx.2 hy.1 hy.2]
  obtain ⟨a, rfl⟩ := Int.eq_ofNat_of_zero_le hx.1
  obtain ⟨b, rfl⟩ := Int.eq_ofNat_of_zero_le hy.1
  rw [Int.toNat_natCast, Int.toNat_natCast]
  have hl : a ^^^ b < 256 := Nat.xor_lt_two_pow (n := 8) (by omega) (by omega)
  refine ⟨by omega, fun h => ?_⟩
  have h' : a ^^^ b = a := by omega
  have h2 : a ^^^ (a ^^^ b) = a ^^^ a := by rw [h']
  rw [← Nat.xor_assoc, Nat.xor_self, Nat.zero_xor] at h2
  omega
theorem set_sat {W0 w : World} {L : List Asn} {b off n cap : Nat} {bs : List Int} (S : Sat W0 w (sbs (some ⟨b, off, none⟩) n cap bs :: L)) {i : Nat} (hi : i < bs.length) {c : Int} :
    Sat W0 (w.setCell ⟨b, off + i, none⟩ (.int .u8 c)) (sbs (some ⟨b, off, none⟩) n cap (bs.set i c) :: L) := by
  have h := Sat.own_set (xs := bv bs) S (i := i) (by rw [bv_length]; exact hi) (.int .u8 c)
  have e : (bv bs).set i (.int .u8 c) = bv (bs.set i c) := by simp [bv, List.map_set]
  rw [e] at h
  exact h
theorem sbs_addr {W0 w : World} {L : List Asn} {ao : Option Addr} {n cap : Nat} {bs : List Int} (h : 0 < bs.length) (S : Sat W0 w (slc 5 1 ao n cap (bv bs) :: L)) : ∃ b off, ao = some ⟨b, off, none⟩ := by
  obtain ⟨x, hx⟩ := at_some h
  obtain ⟨b, off, h1, _⟩ := S.own_rd 0 _ (cell_some hx)
  exact ⟨b, off, h1⟩
theorem and30 (n : Int) : bits .and .i64 n 1073741823 = n % 1073741824 := i64_mask n 1073741823 30 (by decide +kernel) (by decide)

set_option maxRecDepth 100000 in
set_option maxHeartbeats 6400000 in
theorem WireSees_walk {w : World} {k s at_ by_ : Int} (hs : I64 s) (hby : 0 ≤ by_ ∧ by_ < 256) {na : Option Addr} {nl nc : Nat} {n : List Int}
    (hn : Rd w na (nv n)) (ln : n.length = nl) (n64 : I64s n) (nx : nl ≤ nc) (nm : nc ≤ maxLen) :
    Calls Try.prog 5 #[.int .i64 k, .int .i64 s, .slice na nl nc, .int .i64 at_, .int .u8 by_] w fun e w' => e = .returned (.bool true) ∧ Below w.heap.size w w' := by
  have S0 := Sat.start w
  have HRN := Lib.hid (fun (L : List Asn) (w' : World) (h : Sat w w' L) => hn.below h.below)
  by_cases b1 : 80 < nl
  · have b1' : decide ((80 : Int) < (nl : Int)) = true := decide_eq_true (by omega)
    go_enter Try.func5, Try.ntmps5
    go_wp2_with fail
    go_ret
    exact ⟨rfl, S0.below⟩
  have b1' : decide ((80 : Int) < (nl : Int)) = false := decide_eq_false (by omega)
  by_cases b2 : by_ = 0
  · have b2' : (by_ == 0) = true := by simpa using b2
    clear b2
    go_enter Try.func5, Try.ntmps5
    go_wp2_with fail
    go_ret
    exact ⟨rfl, S0.below⟩
  have b2' : (by_ == 0) = false := by simpa using b2
  have HE1 := Lib.hid (fun (L : List Asn) (w' : World) (h : Sat w w' L) => wEncode_any h (kind := k) hs (c := nc) (fun w'' h' => HRN.out _ _ h') ln n64 (b := none) (n := 0) (d := 0) (data := []) (fun w'' h' => Rd.nil _ _) rfl (by intro x hx; simp at hx) (Nat.le_trans nx nm) (by unfold maxLen; omega))
  have hok := fun h => say_ok (mark := 81) (kind := k) (least := 1) (top := 20) (seq := s) (nums := n) (data := []) (most := 4096) h
  have hxb := say_bytes (mark := 81) (kind := k) (least := 1) (top := 20) (seq := s) (nums := n) (data := []) (most := 4096) (by omega) (by omega) (by omega) n64 (by intro x hx; simp at hx) (by omega)
  have hpb := fun (h : maySay k 1 20 s n.length ([] : List Int).length 4096 = 0) => bodyB_bytes (mark := 81) (kind := k) (seq := s) (nums := n) (data := []) (by omega) (by have := may_ok h; omega) hs n64 (by intro x hx; simp at hx) (by omega) (by decide)
  clear hn ln n64
  generalize sayP 81 k 1 20 s n [] 4096 = X at HE1 hok hxb
  obtain ⟨x, ex⟩ := X
  simp only at hok hxb
  by_cases q : ex = 0
  case neg =>
    have q' : (ex != 0) = true := by simpa using q
    clear q hok hpb hxb
    go_enter Try.func5, Try.ntmps5
    go_wp2_with (first
      | (go_at_call 9; refine (HE1.out _ _ S0).mono ?_; unfold Encoded; rintro e2 w2 ⟨xa, xc, rfl, S2⟩)
      | (go_at_call 10; refine (known_any S2).mono ?_; rintro e19 w19 ⟨rfl, S19⟩))
    go_ret
    exact ⟨rfl, S19.below⟩
  subst q
  obtain ⟨hmay, hpl, hxe⟩ := hok rfl
  have hp8 := hpb hmay
  generalize bodyB 81 k s n [] = p at hpl hxe hp8
  have hxp : x = recP p := congrArg Prod.fst hxe
  clear hxe hmay hok hpb hs
  obtain ⟨m, hm⟩ : ∃ m, x.length = m := ⟨_, rfl⟩
  have hm2 : m = p.length + 12 := by rw [← hm, hxp, recP_length]
  have hm0 : 0 < m := by omega
  obtain ⟨qn, hq⟩ : ∃ q : Nat, bits .and .i64 at_ 1073741823 = (q : Int) := ⟨(at_ % 1073741824).toNat, by rw [and30]; omega⟩
  obtain ⟨i, hi'⟩ : ∃ i : Nat, i = qn % m := ⟨_, rfl⟩
  have him : i < m := by rw [hi']; exact Nat.mod_lt _ hm0
  obtain ⟨xi, hx⟩ := at_some (show i < x.length by rw [hm]; exact him)
  have hxib := hxb.some hx
  have hy := xor_u8_byte hxib hby
  obtain ⟨c, hc⟩ : ∃ c, bits .xor .u8 xi by_ = c := ⟨_, rfl⟩
  rw [hc] at hy
  have hne : x[i]? ≠ some c := by rw [hx]; intro h; exact b2 (hy.2 (Option.some.inj h).symm)
  have t1 : (takeP 81 1 20 4096 (x.take i)).2.2.2.2 ≠ 0 := by rw [hxp]; exact take_cut hpl (by rw [recP_length]; omega)
  have t2 : (takeP 81 1 20 4096 (x.set i c)).2.2.2.2 ≠ 0 := by rw [hxp] at hne ⊢; exact take_set hp8 hpl (by rw [recP_length]; omega) hy.1 hne
  have HT3 : Hid (takeP 81 1 20 4096 (x ++ [0]) = (0, 0, [], [], 3)) := by show _ = _; rw [hxp]; exact take_more hpl 0
  have HX := Lib.hid hx
  have HXM := Lib.hid hm
  have HD1 := Lib.hid (fun (a : Option Addr) (c : Nat) (L : List Asn) (w' : World) (h : Sat w w' (sbs a m c x :: L)) => wDecode_any h (xs := x.take i) (m := i) (a := a) (c := c) (fun w'' h' => by have := h'.own_rd.take i; unfold bv at this ⊢; rwa [← List.map_take] at this) (by rw [List.length_take]; omega) (hxb.take i) (by have := (sbs_rd h).2.2.1; omega) (by omega))
  have HD2 := Lib.hid (fun (a : Option Addr) (c' : Nat) (L : List Asn) (w' : World) (h : Sat w w' (sbs a m c' (x.set i c) :: L)) => wDecode_any h (fun w'' h' => h'.own_rd) (by rw [List.length_set]; exact hm) (bytes_set hxb hy.1) (sbs_rd h).2.2.1 (by omega))
  have HD3 := Lib.hid (fun (a : Option Addr) (c' : Nat) (L : List Asn) (w' : World) (h : Sat w w' (sbs a (m + 1) c' (x ++ [0]) :: L)) => wDecode_any h (fun w'' h' => h'.own_rd) (by rw [List.length_append, hm]; rfl) (hxb.append (by intro z hz; simp at hz; omega)) (sbs_rd h).2.2.1 (by omega))
  have HSET : Hid (∀ {b off cap : Nat} {L : List Asn} {w' : World}, Sat w w' (slc 5 1 (some ⟨b, off, none⟩) m cap (bv x) :: L) → Sat w (w'.setCell ⟨b, off + i, none⟩ (.int .u8 c)) (sbs (some ⟨b, off, none⟩) m cap (x.set i c) :: L)) := fun h => set_sat h (by omega)
  have HAP : Hid (∀ {ao : Option Addr} {cap : Nat} {L : List Asn} {w' : World}, Sat w w' (slc 5 1 ao (m + 1) cap (bv x ++ bv [0]) :: L) → Sat w w' (sbs ao (m + 1) cap (x ++ [0]) :: L)) := fun h => by rw [← bv_append] at h; exact h
  have HAD : Hid (∀ {ao : Option Addr} {cap : Nat} {L : List Asn} {w' : World}, Sat w w' (slc 5 1 ao m cap (bv x) :: L) → ∃ b off, ao = some ⟨b, off, none⟩) := fun h => sbs_addr (by omega) h
  have HIC : Hid (∀ xc : Nat, m ≤ xc → (i : Int) ≤ (xc : Int)) := fun xc h => by omega
  generalize takeP 81 1 20 4096 (x.take i) = R1 at HD1 t1
  generalize takeP 81 1 20 4096 (x.set i c) = R2 at HD2 t2
  obtain ⟨a1, a2, a3, a4, f1⟩ := R1
  obtain ⟨g1, g2, g3, g4, f2⟩ := R2
  simp only at t1 t2
  have t1' : (f1 != 0) = true := by simpa using t1
  have t2' : (f2 != 0) = true := by simpa using t2
  have hmz : ((m : Int) == 0) = false := by rw [beq_eq_false_iff_ne]; omega
  have hrem : (qn : Int) % (m : Int) = (i : Int) := by rw [hi']; simp
  have hrem2 : qn % m = i := hi'.symm
  have hiI : (i : Int) < (m : Int) := by omega
  have hi0 : (0 : Int) ≤ (i : Int) := Int.natCast_nonneg i
  have hm65 : m ≤ 65548 := by omega
  obtain ⟨i0, hi, hz0, hz1, hz2⟩ := info_parts Try.infoB
  clear hxb hxp hp8 hpl hm2 hm hi' hx hxib hy hne t1 t2 b1 b2 hm0
  go_enter Try.func5, Try.ntmps5
  go_wp2_with (first
    | (go_at_call 16; refine (HD3.out _ _ _ _ S15).mono ?_; unfold DecQ; rw [HT3.out]; rintro e16 w16 ⟨rn3, rnc3, rd3, rdc3, rfl, S16⟩; (dsimp only at S16; have S17 := S16.alloc [.int .i64 0, .int .i64 0, .slice none 0 0, .slice none 0 0] 28))
    | (go_at_call 16; refine (HD2.out _ _ _ _ S8).mono ?_; unfold DecQ; rintro e9 w9 ⟨rn2, rnc2, rd2, rdc2, rfl, S9⟩; (dsimp only at S9; have S10 := S9.alloc [.int .i64 0, .int .i64 0, .slice none 0 0, .slice none 0 0] 28))
    | (go_at_call 16; refine (HD1.out _ _ _ _ S2).mono ?_; unfold DecQ; rintro e3 w3 ⟨rn, rnc, rd, rdc, rfl, S3⟩; (dsimp only at S3; have S4 := S3.alloc [.int .i64 0, .int .i64 0, .slice none 0 0, .slice none 0 0] 28))
    | (go_at_call 9; refine (HE1.out _ _ S0).mono ?_; unfold Encoded; rintro e2 w2 ⟨xa, xc, rfl, S2⟩; dsimp only at S2; rw [HXM.out] at S2 ⊢; have hxc := (sbs_rd S2).2.2.1; have hixc : (i : Int) ≤ (xc : Int) := HIC.out _ hxc)
    | (refine wpList_store_sat (off := 0) (n := 4) rfl 28 _ _ rfl S17 rfl rfl rfl (by simp) Try.sizeQ (by simp [Value.oneCell']) ?_; intro w18 S18; rw [zstore4 (by rfl)] at S18)
    | (refine wpList_store_sat (off := 0) (n := 4) rfl 28 _ _ rfl S10 rfl rfl rfl (by simp) Try.sizeQ (by simp [Value.oneCell']) ?_; intro w11 S11; rw [zstore4 (by rfl)] at S11; have S12 := (Sat.own_new (post := []) (S11.alloc [] 5) rfl (Nat.le_refl _) (by unfold maxLen; omega) (by simp) : Sat w _ (slc 5 1 (some ⟨w11.heap.size, 0, none⟩) 0 0 [] :: _)); have x12 := (S12.sel [8]).own_rd)
    | (refine wpList_store_sat (off := 0) (n := 4) rfl 28 _ _ rfl S4 rfl rfl rfl (by simp) Try.sizeQ (by simp [Value.oneCell']) ?_; intro w5 S5; rw [zstore4 (by rfl)] at S5; have S6 := (Sat.own_new (post := []) (S5.alloc [] 5) rfl (Nat.le_refl _) (by unfold maxLen; omega) (by simp) : Sat w _ (slc 5 1 (some ⟨w5.heap.size, 0, none⟩) 0 0 [] :: _)); have x6 := (S6.sel [4]).own_rd)
    | (at_builtin; refine wpList_append_sat rfl (.tmp 54) (.tmp 55) _ rfl 5 i0 (.int .u8 0) 1 1 Try.underlying23 hi hz0 hz1 hz2 rfl (by decide) S6 rfl rfl x6 (by rw [bv_length, HXM.out, Nat.mul_one]) (bv_one _) (by unfold maxLen; omega) (by omega) ?_; intro ao7 cap7 w7 S7; simp only [Nat.zero_add, List.nil_append] at S7 ⊢; obtain ⟨b7, off7, rfl⟩ := HAD.out S7; obtain ⟨c7, f7⟩ := S7.own_cell (i := i) (u := .int .u8 xi) (cell_some HX.out); have S8 := HSET.out S7)
    | (at_builtin; refine wpList_append_sat rfl (.tmp 70) (.tmp 71) _ rfl 5 i0 (.int .u8 0) 1 1 Try.underlying23 hi hz0 hz1 hz2 rfl (by decide) S12 rfl rfl x12 (by rw [bv_length, HXM.out, Nat.mul_one]) (bv_one _) (by unfold maxLen; omega) (by omega) ?_; intro ao13 cap13 w13 S13; simp only [Nat.zero_add, List.nil_append] at S13 ⊢; have S14 := S13.alloc [.int .u8 0] 5)
    | (at_builtin; refine wpList_append_sat rfl (.tmp 72) (.tmp 73) _ rfl 5 i0 (.int .u8 0) 1 1 Try.underlying23 hi hz0 hz1 hz2 rfl (by decide) S14.swap rfl rfl (Rd.lit (S14.block 0 rfl).1) rfl (bv_one [0]) (by unfold maxLen; omega) (by omega) ?_; intro ao15 cap15 w15 S15'; have S15 := HAP.out S15')
    | (go_at_call 10; refine (known_any S18).mono ?_; rintro e19 w19 ⟨rfl, S19⟩))
  go_ret
  exact ⟨rfl, S19.below⟩
end Go.Proofs.Ytlkmnbnphgfppaa
