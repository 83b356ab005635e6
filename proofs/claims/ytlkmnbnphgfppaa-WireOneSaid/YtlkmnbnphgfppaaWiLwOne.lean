/-
  The law WireOne, walked.
-/
import Derived.Test.YtlkmnbnphgfppaaWiK
import Derived.Test.YtlkmnbnphgfppaaWiM
import Derived.Test.YtlkmnbnphgfppaaWiI
namespace Go.Proofs.Ytlkmnbnphgfppaa
open Go.RowKit Go.Sep Go.Oct
set_option linter.unusedSimpArgs false

set_option maxRecDepth 100000 in
set_option maxHeartbeats 6400000 in
theorem WireOne_walk {w : World} {k s l t : Int} (hs : I64 s) (ht : I64 t) {na da ma ea : Option Addr} {nl nc dl dc ml mc el ec : Nat} {n d m e : List Int}
    (hn : Rd w na (nv n)) (ln : n.length = nl) (n64 : I64s n) (nx : nl ≤ nc) (nm : nc ≤ maxLen) (nr : nl ≤ reachBytes)
    (hd : Rd w da (bv d)) (ld : d.length = dl) (d8 : Bytes d) (dx : dl ≤ dc) (dm : dc ≤ maxLen) (dr : dl ≤ reachBytes)
    (hm : Rd w ma (nv m)) (lm : m.length = ml) (m64 : I64s m) (mx : ml ≤ mc) (mm : mc ≤ maxLen) (mr : ml ≤ reachBytes)
    (he : Rd w ea (bv e)) (le : e.length = el) (e8 : Bytes e) (ex : el ≤ ec) (em : ec ≤ maxLen) (er : el ≤ reachBytes) :
    Calls Try.prog 3 #[.int .i64 k, .int .i64 s, .slice na nl nc, .slice da dl dc, .int .i64 l, .int .i64 t, .slice ma ml mc, .slice ea el ec] w fun e w' => e = .returned (.bool true) ∧ Below w.heap.size w w' := by
  have S0 := Sat.start w
  have HRN := Lib.hid (fun (L : List Asn) (w' : World) (h : Sat w w' L) => hn.below h.below)
  have HRD := Lib.hid (fun (L : List Asn) (w' : World) (h : Sat w w' L) => hd.below h.below)
  have HRM := Lib.hid (fun (L : List Asn) (w' : World) (h : Sat w w' L) => hm.below h.below)
  have HRE := Lib.hid (fun (L : List Asn) (w' : World) (h : Sat w w' L) => he.below h.below)
  have LN := Lib.hid ln
  have LD := Lib.hid ld
  have LM := Lib.hid lm
  have LE := Lib.hid le
  have HE1 := Lib.hid (fun (L : List Asn) (w' : World) (h : Sat w w' L) => wEncode_any h (kind := k) hs (c := nc) (fun w'' h' => HRN.out _ _ h') ln n64 (d := dc) (fun w'' h' => HRD.out _ _ h') ld d8 (Nat.le_trans nx nm) (Nat.le_trans dx dm))
  have HE2 := Lib.hid (fun (L : List Asn) (w' : World) (h : Sat w w' L) => wEncode_any h (kind := l) ht (c := mc) (fun w'' h' => HRM.out _ _ h') lm m64 (d := ec) (fun w'' h' => HRE.out _ _ h') le e8 (Nat.le_trans mx mm) (Nat.le_trans ex em))
  have hinj := Lib.hid (fun h h' => say_inj (mark := 81) (kind := k) (least := 1) (top := 20) (seq := s) (nums := n) (data := d) (most := 4096) (by omega) n64 h (kind2 := l) (seq2 := t) (nums2 := m) (data2 := e) m64 h')
  unfold maxLen at nm dm mm em
  unfold reachBytes at nr dr mr er
  have wn : IntKind.i64.wrap ((nl : Int) + (ml : Int)) = (nl : Int) + (ml : Int) := by rw [IntKind.wrap_i64]; omega
  have wd : IntKind.i64.wrap ((dl : Int) + (el : Int)) = (dl : Int) + (el : Int) := by rw [IntKind.wrap_i64]; omega
  clear hn hd hm he ln ld lm le n64 m64 d8 e8 hs ht
  by_cases b1 : 160 < nl + ml
  · have b1' : decide ((160 : Int) < (nl : Int) + (ml : Int)) = true := decide_eq_true (by omega)
    clear b1
    go_enter Try.func3, Try.ntmps3
    go_wp2_with fail
    go_ret
    exact ⟨rfl, S0.below⟩
  have b1' : decide ((160 : Int) < (nl : Int) + (ml : Int)) = false := decide_eq_false (by omega)
  by_cases b2 : 6000 < dl + el
  · have b2' : decide ((6000 : Int) < (dl : Int) + (el : Int)) = true := decide_eq_true (by omega)
    clear b1 b2
    go_enter Try.func3, Try.ntmps3
    go_wp2_with fail
    go_ret
    exact ⟨rfl, S0.below⟩
  have b2' : decide ((6000 : Int) < (dl : Int) + (el : Int)) = false := decide_eq_false (by omega)
  have hxl := say_length 81 k 1 20 s n d 4096
  have hyl := say_length 81 l 1 20 t m e 4096
  generalize sayP 81 k 1 20 s n d 4096 = X at HE1 hinj hxl
  generalize sayP 81 l 1 20 t m e 4096 = Y at HE2 hinj hyl
  obtain ⟨x, ex'⟩ := X
  obtain ⟨y, ey'⟩ := Y
  simp only at hinj hxl hyl
  by_cases q1 : ex' = 0
  case neg =>
    have q1' : (ex' != 0) = true := by simpa using q1
    clear q1 hinj
    go_enter Try.func3, Try.ntmps3
    go_wp2_with (first
      | (go_at_call 9; refine (HE2.out _ _ S2).mono ?_; unfold Encoded; rintro e3 w3 ⟨ya, yc, rfl, S3⟩; dsimp only at S3)
      | (go_at_call 9; refine (HE1.out _ _ S0).mono ?_; unfold Encoded; rintro e2 w2 ⟨xa, xc, rfl, S2⟩; dsimp only at S2)
      | (go_at_call 10; refine (known_any S3).mono ?_; rintro e9 w9 ⟨rfl, S9⟩))
    go_ret
    exact ⟨rfl, S9.below⟩
  subst q1
  by_cases q2 : ey' = 0
  case neg =>
    have q2' : (ey' != 0) = true := by simpa using q2
    clear q2 hinj
    go_enter Try.func3, Try.ntmps3
    go_wp2_with (first
      | (go_at_call 9; refine (HE2.out _ _ S2).mono ?_; unfold Encoded; rintro e3 w3 ⟨ya, yc, rfl, S3⟩; dsimp only at S3)
      | (go_at_call 9; refine (HE1.out _ _ S0).mono ?_; unfold Encoded; rintro e2 w2 ⟨xa, xc, rfl, S2⟩; dsimp only at S2)
      | (go_at_call 10; refine (known_any S3).mono ?_; rintro e9 w9 ⟨rfl, S9⟩))
    go_ret
    exact ⟨rfl, S9.below⟩
  subst q2
  have hxy := hinj.out rfl rfl
  clear hinj
  have hxr : Hid (∀ {a b : Option Addr} {c c' : Nat} (L : List Asn) (w' : World), Sat w w' (sbs b y.length c' y :: sbs a x.length c x :: L) → Rd w' a (bv x)) := fun L w' h => h.tail.own_rd
  have hyr : Hid (∀ {b : Option Addr} {c' : Nat} (L : List Asn) (w' : World), Sat w w' (sbs b y.length c' y :: L) → Rd w' b (bv y)) := fun L w' h => h.own_rd
  by_cases h1 : k = l
  case neg =>
    have h1' : (k == l) = false := by simpa using h1
    have HXY : Hid (decide (x = y) = false) := decide_eq_false fun h => h1 (hxy.1 h).1
    clear h1 hxy
    go_enter Try.func3, Try.ntmps3
    go_wp2_with (first
      | (go_at_call 9; refine (HE2.out _ _ S2).mono ?_; unfold Encoded; rintro e3 w3 ⟨ya, yc, rfl, S3⟩; dsimp only at S3)
      | (go_at_call 9; refine (HE1.out _ _ S0).mono ?_; unfold Encoded; rintro e2 w2 ⟨xa, xc, rfl, S2⟩; dsimp only at S2)
      | (go_at_call 10; refine (known_any S4).mono ?_; rintro e9 w9 ⟨rfl, S9⟩)
      | (go_at_call 11; refine (same_any (hxr.out _ _ S3) (hyr.out _ _ S3) rfl rfl (by omega) (by omega)).mono ?_; rw [HXY.out]; rintro e4 w4 ⟨rfl, nq, hw⟩; have S4 : Sat w w4 _ := hw ▸ S3.drewN nq; clear hw))
    go_ret
    exact ⟨rfl, S9.below⟩
  subst h1
  have h1' : (k == k) = true := by simp
  by_cases h2 : s = t
  case neg =>
    have h2' : (s == t) = false := by simpa using h2
    have HXY : Hid (decide (x = y) = false) := decide_eq_false fun h => h2 (hxy.1 h).2.1
    clear h2 hxy
    go_enter Try.func3, Try.ntmps3
    go_wp2_with (first
      | (go_at_call 9; refine (HE2.out _ _ S2).mono ?_; unfold Encoded; rintro e3 w3 ⟨ya, yc, rfl, S3⟩; dsimp only at S3)
      | (go_at_call 9; refine (HE1.out _ _ S0).mono ?_; unfold Encoded; rintro e2 w2 ⟨xa, xc, rfl, S2⟩; dsimp only at S2)
      | (go_at_call 10; refine (known_any S4).mono ?_; rintro e9 w9 ⟨rfl, S9⟩)
      | (go_at_call 11; refine (same_any (hxr.out _ _ S3) (hyr.out _ _ S3) rfl rfl (by omega) (by omega)).mono ?_; rw [HXY.out]; rintro e4 w4 ⟨rfl, nq, hw⟩; have S4 : Sat w w4 _ := hw ▸ S3.drewN nq; clear hw))
    go_ret
    exact ⟨rfl, S9.below⟩
  subst h2
  have h2' : (s == s) = true := by simp
  by_cases h3 : n = m
  case neg =>
    have HN : Hid (decide (n = m) = false) := decide_eq_false h3
    have HXY : Hid (decide (x = y) = false) := decide_eq_false fun h => h3 (hxy.1 h).2.2.1
    clear h3 hxy
    go_enter Try.func3, Try.ntmps3
    go_wp2_with (first
      | (go_at_call 9; refine (HE2.out _ _ S2).mono ?_; unfold Encoded; rintro e3 w3 ⟨ya, yc, rfl, S3⟩; dsimp only at S3)
      | (go_at_call 9; refine (HE1.out _ _ S0).mono ?_; unfold Encoded; rintro e2 w2 ⟨xa, xc, rfl, S2⟩; dsimp only at S2)
      | (go_at_call 10; refine (known_any S5).mono ?_; rintro e9 w9 ⟨rfl, S9⟩)
      | (go_at_call 11; refine (same_any (HRD.out _ _ S5) (HRE.out _ _ S5) LD.out LE.out (by omega) (by omega)).mono ?_; rw [HD.out]; rintro e6 w6 ⟨rfl, nq3, hw⟩; have S6 : Sat w w6 _ := hw ▸ S5.drewN nq3; clear hw)
      | (go_at_call 12; refine (nums_any (HRN.out _ _ S4) (HRM.out _ _ S4) LN.out LM.out (by omega) (by omega)).mono ?_; rw [HN.out]; rintro e5 w5 ⟨rfl, nq2, hw⟩; have S5 : Sat w w5 _ := hw ▸ S4.drewN nq2; clear hw)
      | (go_at_call 11; refine (same_any (hxr.out _ _ S3) (hyr.out _ _ S3) rfl rfl (by omega) (by omega)).mono ?_; rw [HXY.out]; rintro e4 w4 ⟨rfl, nq, hw⟩; have S4 : Sat w w4 _ := hw ▸ S3.drewN nq; clear hw))
    go_ret
    exact ⟨rfl, S9.below⟩
  have HN : Hid (decide (n = m) = true) := decide_eq_true h3
  by_cases h4 : d = e
  case neg =>
    have HD : Hid (decide (d = e) = false) := decide_eq_false h4
    have HXY : Hid (decide (x = y) = false) := decide_eq_false fun h => h4 (hxy.1 h).2.2.2
    clear h3 h4 hxy
    go_enter Try.func3, Try.ntmps3
    go_wp2_with (first
      | (go_at_call 9; refine (HE2.out _ _ S2).mono ?_; unfold Encoded; rintro e3 w3 ⟨ya, yc, rfl, S3⟩; dsimp only at S3)
      | (go_at_call 9; refine (HE1.out _ _ S0).mono ?_; unfold Encoded; rintro e2 w2 ⟨xa, xc, rfl, S2⟩; dsimp only at S2)
      | (go_at_call 10; refine (known_any S6).mono ?_; rintro e9 w9 ⟨rfl, S9⟩)
      | (go_at_call 11; refine (same_any (HRD.out _ _ S5) (HRE.out _ _ S5) LD.out LE.out (by omega) (by omega)).mono ?_; rw [HD.out]; rintro e6 w6 ⟨rfl, nq3, hw⟩; have S6 : Sat w w6 _ := hw ▸ S5.drewN nq3; clear hw)
      | (go_at_call 12; refine (nums_any (HRN.out _ _ S4) (HRM.out _ _ S4) LN.out LM.out (by omega) (by omega)).mono ?_; rw [HN.out]; rintro e5 w5 ⟨rfl, nq2, hw⟩; have S5 : Sat w w5 _ := hw ▸ S4.drewN nq2; clear hw)
      | (go_at_call 11; refine (same_any (hxr.out _ _ S3) (hyr.out _ _ S3) rfl rfl (by omega) (by omega)).mono ?_; rw [HXY.out]; rintro e4 w4 ⟨rfl, nq, hw⟩; have S4 : Sat w w4 _ := hw ▸ S3.drewN nq; clear hw))
    go_ret
    exact ⟨rfl, S9.below⟩
  have HD : Hid (decide (d = e) = true) := decide_eq_true h4
  have HXY : Hid (decide (x = y) = true) := decide_eq_true (hxy.2 ⟨rfl, rfl, h3, h4⟩)
  clear h3 h4 hxy
  go_enter Try.func3, Try.ntmps3
  go_wp2_with (first
      | (go_at_call 9; refine (HE2.out _ _ S2).mono ?_; unfold Encoded; rintro e3 w3 ⟨ya, yc, rfl, S3⟩; dsimp only at S3)
      | (go_at_call 9; refine (HE1.out _ _ S0).mono ?_; unfold Encoded; rintro e2 w2 ⟨xa, xc, rfl, S2⟩; dsimp only at S2)
      | (go_at_call 10; refine (known_any S6).mono ?_; rintro e9 w9 ⟨rfl, S9⟩)
      | (go_at_call 11; refine (same_any (HRD.out _ _ S5) (HRE.out _ _ S5) LD.out LE.out (by omega) (by omega)).mono ?_; rw [HD.out]; rintro e6 w6 ⟨rfl, nq3, hw⟩; have S6 : Sat w w6 _ := hw ▸ S5.drewN nq3; clear hw)
      | (go_at_call 12; refine (nums_any (HRN.out _ _ S4) (HRM.out _ _ S4) LN.out LM.out (by omega) (by omega)).mono ?_; rw [HN.out]; rintro e5 w5 ⟨rfl, nq2, hw⟩; have S5 : Sat w w5 _ := hw ▸ S4.drewN nq2; clear hw)
      | (go_at_call 11; refine (same_any (hxr.out _ _ S3) (hyr.out _ _ S3) rfl rfl (by omega) (by omega)).mono ?_; rw [HXY.out]; rintro e4 w4 ⟨rfl, nq, hw⟩; have S4 : Sat w w4 _ := hw ▸ S3.drewN nq; clear hw))
  go_ret
  exact ⟨rfl, S9.below⟩
end Go.Proofs.Ytlkmnbnphgfppaa
