/-
  link: a row out of a list of rows; known.
-/
import Derived.Test.YtdgalljalcediaaLi4
import Derived.Test.YtdgalljalcediaaLi7
import Derived.Test.YtdgalljalcediaaKSame
import Derived.Lib.SlBytesConst
namespace Go.Proofs.Ytdgalljalcediaa
open Go.RowKit Go.Sep Go.Oct
set_option linter.unusedSimpArgs false

theorem brs_at {W0 w : World} {L : List Asn} {ao : Option Addr} {n cap : Nat} {rs : List (List Int)} (S : Sat W0 w (brs ao n cap rs :: L)) {i : Nat} {r : List Int} (hi : rs[i]? = some r) :
    ∃ b off xa xc hs, ao = some ⟨b, off, none⟩ ∧ r.length ≤ xc ∧ xc ≤ maxLen ∧ n ≤ cap ∧ rs.length = n ∧ Sat W0 w (slc 29 1 (some ⟨b, off, none⟩) n cap (hs.map hv) :: rowsB hs rs :: L) ∧
      ∀ w' L', Sat W0 w' (slc 29 1 (some ⟨b, off, none⟩) n cap (hs.map hv) :: rowsB hs rs :: L') → w'.cell? ⟨b, off + i, none⟩ = some (.slice xa r.length xc) ∧ Rd w' xa (bv r) := by
  obtain ⟨hs, hn, hl, S1⟩ := brs_out S
  obtain ⟨xa, xc, h1, -, h3, h4⟩ := rowsB_at S1.swap hi
  obtain ⟨b, off, rfl, -⟩ := S1.own_rd i (hv (xa, r.length, xc)) (by rw [List.getElem?_map, h1]; rfl)
  refine ⟨b, off, xa, xc, hs, rfl, h3, h4, S1.own_len.2.1, hn, S1, fun w' L' S' => ⟨S'.own_rd.at (by rw [List.getElem?_map, h1]; rfl), ?_⟩⟩
  obtain ⟨ya, yc, hy, hr, -, -⟩ := rowsB_at S'.swap hi
  rw [h1] at hy
  cases hy
  exact hr
theorem brs_close {W0 w : World} {L : List Asn} {ao : Option Addr} {n cap : Nat} {hs : List Hd} {rs : List (List Int)} (h : rs.length = n) (S : Sat W0 w (slc 29 1 ao n cap (hs.map hv) :: rowsB hs rs :: L)) : Sat W0 w (brs ao n cap rs :: L) := brs_in h S

def knP : List Int := packP 5 1 0 [120]
def knQ : List Int := packP 5 0 1 []
def knA : LS := ⟨5, [[120]], 1, 1, 0, 0, 1, 0⟩
def knB : LS := ⟨5, [], 1, 0, 1, 0, 1, 0⟩
def knZ : LS := ⟨5, [], 2, 0, 0, 0, 1, 0⟩
theorem kn_send : sendP (LS.new 5) [120] = ([knP], 0, knA) := rfl
theorem kn_ends : Ends2 5 41 [[120]] [] knA (LS.new 5) 1 0 [] [] := ((ends2_new (id := 5) (Ga := [[120]]) (Gb := []) (by unfold I64; omega)).send (p := [120]) rfl (by decide)).1
theorem kn_hear : hearP (LS.new 5) knP = ([[120]], [knQ], knB) := by
  unfold knP
  rw [hear_cases kn_ends (by omega) (by omega) (by decide) (fun h => absurd h (by decide)) (fun _ => rfl) (by omega) (by decide)]
  rfl
theorem kn_ends2 : Ends2 5 81 [[120]] [] knA knB 1 0 [] [[120]] := by
  have h := (kn_ends.hear (by omega) (p := knP) ⟨1, 0, [120], rfl, by omega, by decide, fun h => absurd h (by decide), fun _ => rfl, by omega, by decide⟩).1
  rw [kn_hear] at h
  exact h
theorem kn_back : hearP knA knQ = ([], [], knZ) := by
  unfold knQ
  rw [hear_cases kn_ends2.swap (by omega) (by omega) (by decide) (fun _ => rfl) (fun h => absurd h (by decide)) (by omega) (by decide)]
  rfl
theorem kn_len : knP.length ≤ 60 ∧ knQ.length ≤ 60 ∧ Bytes knP ∧ Bytes knQ :=
  ⟨by have := packP_length (id := 5) (n := 1) (came := 0) (row := [120]) (by decide); exact Nat.le_trans this (by decide), by have := packP_length (id := 5) (n := 0) (came := 1) (row := []) (by decide); exact Nat.le_trans this (by decide),
   packP_bytes (by unfold I64; omega) (by unfold I64; omega) (by unfold I64; omega) (by decide) (by decide), packP_bytes (by unfold I64; omega) (by unfold I64; omega) (by unfold I64; omega) (by decide) (by decide)⟩

set_option maxRecDepth 100000 in
set_option maxHeartbeats 6400000 in
theorem known_any {W0 w : World} {L : List Asn} (S : Sat W0 w L) : Calls Try.prog 12 #[] w fun e w' => e = .returned (.bool true) ∧ Sat W0 w' L := by
  have hsend := kn_send
  have hhear := kn_hear
  have hback := kn_back
  obtain ⟨hp1, hq1, hp2, hq2⟩ := kn_len
  have OKA : Hid (knA.Ok 41) := kn_ends.oka
  generalize knP = P at *
  generalize knQ = Q at *
  generalize knA = ka at *
  have HS := Lib.hid (fun (w' : World) (L : List Asn) (g : Nat) (a : Option Addr) (c : Nat) (h : Sat W0 w' (PL g (LS.new 5) :: L)) (hR : Rd w' a (bv [120])) (h0 : a = none → c = 0) => show Calls Try.prog 14 #[.pointer (some ⟨g, 0, none⟩), .slice a 1 c] w' (Sent W0 L g ([P], 0, ka)) by
    have := send_any h (LS.new_ok (by unfold I64; omega)) (by omega) hR rfl h0 (by decide) (by decide); rw [hsend] at this; exact this)
  have HH := Lib.hid (fun (w' : World) (L : List Asn) (g : Nat) (a : Option Addr) (c : Nat) (h : Sat W0 w' (PL g (LS.new 5) :: L)) (hR : ∀ w', Sat W0 w' L → Rd w' a (bv P)) (hc : P.length ≤ c) => show Calls Try.prog 15 #[.pointer (some ⟨g, 0, none⟩), .slice a P.length c] w' (HeardP W0 L g ([[120]], [Q], knB)) by
    have := hear_any h (LS.new_ok (by unfold I64; omega)) (by omega) hR rfl hp2 hc (by omega); rw [hhear] at this; exact this)
  have HB := Lib.hid (fun (w' : World) (L : List Asn) (g : Nat) (a : Option Addr) (c : Nat) (h : Sat W0 w' (PL g ka :: L)) (hR : ∀ w', Sat W0 w' L → Rd w' a (bv Q)) (hc : Q.length ≤ c) => show Calls Try.prog 15 #[.pointer (some ⟨g, 0, none⟩), .slice a Q.length c] w' (HeardP W0 L g ([], [], knZ)) by
    have := hear_any h OKA.out (by omega) hR rfl hq2 hc (by omega); rw [hback] at this; exact this)
  clear hsend hhear hback
  have kc := fun (w : World) (C : Array Value) (n c : Nat) => Lib.run_convert_bytes_const (P := Try.prog) w 29 5 C n c Try.underlying29 Try.underlying5
  go_enter Try.func12, Try.ntmps12
  go_wp2_with (first
    | (go_at_call 13; refine (new_any S1 5).mono ?_; rintro e w2 ⟨gb, rfl, S2⟩; have S3 := S2.allocC [.int .u8 120] 5 (1, 2))
    | (go_at_call 13; refine (new_any S 5).mono ?_; rintro e w1 ⟨ga, rfl, S1⟩)
    | (go_at_call 14; refine (HS.out _ _ _ _ _ (S3.sel [2]) S3.crd (fun h => nomatch h)).mono ?_; unfold Sent; rintro e w4 ⟨oa, oc, rfl, S4⟩; dsimp only at S4; obtain ⟨b5, o5, x5, c5, hs5, rfl, i5, j5, k5, -, S5, H5⟩ := brs_at (i := 0) S4 rfl; have d5 := (H5 _ _ S5).1; simp only [Nat.add_zero] at d5)
    | (go_at_call 15; refine (HB.out _ _ _ _ _ (S9.sel [8]) (fun w' h => (H8 _ _ (h.sel [1, 1])).2) i8).mono ?_; unfold HeardP; rintro e w10 ⟨r10, s10, o10, c10, rfl, S10⟩; dsimp only at S10)
    | (go_at_call 15; refine (HH.out _ _ _ _ _ (S5.sel [4]) (fun w' h => (H5 _ _ h).2) i5).mono ?_; unfold HeardP; rintro e w6 ⟨r6, s6, o6, c6, rfl, S6⟩; dsimp only at S6; obtain ⟨b7, o7, x7, c7, hs7, rfl, i7, j7, k7, -, S7, H7⟩ := brs_at (i := 0) S6 rfl; have d7 := (H7 _ _ S7).1; simp only [Nat.add_zero] at d7; obtain ⟨b8, o8, x8, c8, hs8, rfl, i8, j8, k8, -, S8, H8⟩ := brs_at (i := 0) (S7.sel [2]) rfl; have d8 := (H8 _ _ S8).1; simp only [Nat.add_zero] at d8)
    | (go_at_call 27; (have S9a := S8.allocC [.int .u8 120] 5 (1, 2)); refine (same_any (xs := [120]) (ys := [120]) (H7 _ _ (S9a.sel [3, 3])).2 S9a.crd rfl rfl (by simp) (by simp)).mono ?_; rintro e w9 ⟨rfl, hq⟩; rw [decide_eq_true rfl]; have S9 := S9a.quiet hq; clear hq S9a; have d9 := (H8 _ _ (S9.sel [1, 1])).1; simp only [Nat.add_zero] at d9)
    | (go_at_call 16; refine (left_any (S10.sel [2])).mono ?_; rintro e w11 ⟨rfl, S11⟩)
    | fail)
  go_ret
  exact ⟨rfl, S11.tail.tail.tail.tail.tail.tail.tail.tail.tail.tail.tail.tail⟩
end Go.Proofs.Ytdgalljalcediaa
