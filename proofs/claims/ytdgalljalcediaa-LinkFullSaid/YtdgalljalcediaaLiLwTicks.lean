/-
  The law LinkTicks, walked.
-/
import Derived.Test.YtdgalljalcediaaLiK
import Derived.Test.YtdgalljalcediaaLiI
import Derived.Test.YtdgalljalcediaaLiW
import Derived.Test.YtdgalljalcediaaLi5
namespace Go.Proofs.Ytdgalljalcediaa
open Go.RowKit Go.Sep Go.Oct
set_option linter.unusedSimpArgs false

theorem Sat.one {W0 w : World} {A : Asn} {L : List Asn} (S : Sat W0 w (A :: L)) : Sat W0 w [A] := ⟨S.below, star_mono (fun _ h => h) (fun _ _ => True.intro) S.own⟩
def SentN (W0 : World) (L : List Asn) (g : Nat) (n : Nat) (s : LS) (e : Ending) (w' : World) : Prop :=
  ∃ ao cap outs, e = .returned (.tuple #[.slice ao n cap, .int .i64 0]) ∧ Sat W0 w' (brs ao n cap outs :: PL g s :: L)
theorem send_n {W0 w : World} {L : List Asn} {g : Nat} {id : Int} {rs : List (List Int)} {p : List Int} (S : Sat W0 w (PL g (PS id rs) :: L)) (hid : I64 id) (hl : rs.length < 1000) (hr : ∀ r ∈ rs, Bytes r ∧ r.length ≤ 4096) {a : Option Addr} {m c : Nat} (hR : Rd w a (bv p)) (hm : p.length = m) (h0 : a = none → c = 0) (hB : Bytes p) (hp : m ≤ 4096) :
    Calls Try.prog 14 #[.pointer (some ⟨g, 0, none⟩), .slice a m c] w (SentN W0 L g (if rs.length < 16 then 1 else 0) (PS id (rs ++ [p]))) := by
  refine (send_any S (PS_ok hid (by omega) hr) (by omega) hR hm h0 hB (by omega)).mono ?_
  obtain ⟨h1, h2, h3, -⟩ := send_PS (id := id) (rs := rs) (p := p) (by omega) hl
  rintro e w' ⟨ao, cap, rfl, S1⟩
  rw [h1, h3] at S1
  rw [h2, h3]
  exact ⟨ao, cap, _, rfl, S1⟩
def TickN (W0 : World) (L : List Asn) (g : Nat) (n : Nat) (s : LS) (e : Ending) (w' : World) : Prop :=
  ∃ ao cap outs, e = .returned (.slice ao n cap) ∧ Sat W0 w' (brs ao n cap outs :: PL g s :: L)
theorem tick_n {W0 w : World} {L : List Asn} {g : Nat} {id : Int} {rs : List (List Int)} {t : Nat} (S : Sat W0 w (PL g (TS id rs t) :: L)) (hid : I64 id) (hl : rs.length ≤ 1000) (hr : ∀ r ∈ rs, Bytes r ∧ r.length ≤ 4096) (ht : t ≤ 1000) :
    Calls Try.prog 22 #[.pointer (some ⟨g, 0, none⟩)] w (TickN W0 L g (if (t + 1) % 5 = 0 then min rs.length 16 else 0) (TS id rs (t + 1))) := by
  refine (tick_any S (TS_ok hid hl hr ht) (by omega)).mono ?_
  obtain ⟨h1, h2⟩ := tick_TS (id := id) (rs := rs) t
  rintro e w' ⟨ao, cap, rfl, S1⟩
  rw [h1, h2] at S1
  rw [h2]
  exact ⟨ao, cap, _, rfl, S1⟩

set_option maxRecDepth 100000 in
set_option maxHeartbeats 6400000 in
theorem LinkTicks_walk {w : World} {x y : Int} (hx : I64 x) (hy : I64 y) :
    Calls Try.prog 11 #[.int .i64 x, .int .i64 y] w fun e w' => e = .returned (.bool true) ∧ Below w.heap.size w w' := by
  have S0 := Sat.start w
  by_cases b0 : x < 0
  · have b0' : decide (x < 0) = true := decide_eq_true b0
    clear b0
    go_enter Try.func11, Try.ntmps11
    go_wp2_with (first | (go_at_call 12; refine (known_any S0).mono ?_; rintro e w8 ⟨rfl, S8⟩))
    go_ret
    exact ⟨rfl, S8.below⟩
  have b0' : decide (x < 0) = false := decide_eq_false b0
  by_cases b1 : 40 < x
  · have b1' : decide (40 < x) = true := decide_eq_true b1
    clear b0 b1
    go_enter Try.func11, Try.ntmps11
    go_wp2_with (first | (go_at_call 12; refine (known_any S0).mono ?_; rintro e w8 ⟨rfl, S8⟩))
    go_ret
    exact ⟨rfl, S8.below⟩
  have b1' : decide (40 < x) = false := decide_eq_false b1
  by_cases b2 : y < 0
  · have b2' : decide (y < 0) = true := decide_eq_true b2
    clear b0 b1 b2
    go_enter Try.func11, Try.ntmps11
    go_wp2_with (first | (go_at_call 12; refine (known_any S0).mono ?_; rintro e w8 ⟨rfl, S8⟩))
    go_ret
    exact ⟨rfl, S8.below⟩
  have b2' : decide (y < 0) = false := decide_eq_false b2
  by_cases b3 : 60 < y
  · have b3' : decide (60 < y) = true := decide_eq_true b3
    clear b0 b1 b2 b3
    go_enter Try.func11, Try.ntmps11
    go_wp2_with (first | (go_at_call 12; refine (known_any S0).mono ?_; rintro e w8 ⟨rfl, S8⟩))
    go_ret
    exact ⟨rfl, S8.below⟩
  have b3' : decide (60 < y) = false := decide_eq_false b3
  obtain ⟨n, rfl⟩ : ∃ n : Nat, x = n := ⟨x.toNat, by omega⟩
  obtain ⟨q, rfl⟩ : ∃ q : Nat, y = q := ⟨y.toNat, by omega⟩
  have hn40 : n ≤ 40 := by omega
  have hq60 : q ≤ 60 := by omega
  have hI2 : I64 2 := by unfold I64; omega
  have HI2 := Lib.hid hI2
  clear hI2 hx hy
  go_enter Try.func11, Try.ntmps11
  go_wp2_with (first
    | (go_at_call 13; refine (new_any S0 2).mono ?_; rintro e w1 ⟨g, rfl, S1⟩))
  clear b0' b1' b2' b3' b0 b1 b2 b3
  go_loopw [6] (fun i wr => ∃ k : Nat, k ≤ n ∧ i = .int .i64 k ∧ Sat w wr (PL g (PS 2 (rsT k)) :: [])) (fun i _ => n - (intOf i).toNat)
  case atStart => exact ⟨0, by omega, rfl, S1⟩
  case round =>
    clear S1
    obtain ⟨k, hk, rfl, S2⟩ := hrel
    by_cases hlt : k < n
    · have hd : decide ((k : Int) < (n : Int)) = true := decide_eq_true (by omega)
      have hcv : IntKind.u8.wrap (k : Int) = (k : Int) := by simp [IntKind.wrap, IntKind.bits, IntKind.signed]; omega
      have hw : IntKind.i64.wrap ((k : Int) + 1) = (k : Int) + 1 := by rw [IntKind.wrap_i64]; omega
      have S3 := S2.alloc [.int .u8 (k : Int)] 5
      have hkb : Bytes [(k : Int)] := fun x hx => by rw [List.mem_singleton.1 hx]; omega
      have HKB := Lib.hid hkb
      clear hkb
      go_wp2_with (first
        | (go_at_call 14; refine (send_n (p := [(k : Int)]) S3.swap HI2.out (by rw [rsT_length]; omega) (rsT_row (by omega)) (Rd.lit (S3.block 0 rfl).1) rfl (fun h => nomatch h) HKB.out (by simp)).mono ?_; unfold SentN; rintro e w4 ⟨oa, oc, ou, rfl, S4⟩; rw [← rsT_succ] at S4))
      exact ⟨⟨k + 1, by omega, by go_num, Sat.one S4.swap⟩, by simp [intOf]; omega⟩
    · have hd : decide ((k : Int) < (n : Int)) = false := decide_eq_false (by omega)
      obtain rfl : k = n := by omega
      have S3 : Sat w wr (PL g (TS 2 (rsT k) 0) :: []) := by rw [TS_zero]; exact S2
      obtain ⟨mn, hmn⟩ : ∃ mn, min k 16 = mn := ⟨_, rfl⟩
      have hif : (if (16 : Int) < (k : Int) then (16 : Int) else (k : Int)) = (mn : Int) := by rw [← hmn]; split <;> omega
      obtain ⟨d5, hd5⟩ : ∃ d5 : Nat, q / 5 = d5 := ⟨_, rfl⟩
      have hq5 : (q : Int) / 5 = (d5 : Int) := by omega
      have hw5 : IntKind.i64.wrap (1 + (d5 : Int)) = 1 + (d5 : Int) := by rw [IntKind.wrap_i64]; omega
      obtain ⟨sn, hsn⟩ : ∃ sn : Int, (((min (rsT k).length 16) * (1 + q / 5) : Nat) : Int) = sn := ⟨_, rfl⟩
      have hsn2 : (mn : Int) * (1 + (d5 : Int)) = sn := by
        rw [← hsn, rsT_length, hmn, hd5]
        simp
      have hms : mn * (1 + d5) ≤ 16 * 13 := Nat.mul_le_mul (by omega) (by omega)
      have hsb : 0 ≤ sn ∧ sn ≤ 1000 := by
        rw [← hsn, rsT_length, hmn, hd5]
        omega
      have hw6 : IntKind.i64.wrap sn = sn := by rw [IntKind.wrap_i64]; omega
      have HTS : Hid (TS 2 (rsT k) q = ⟨2, rsT k, 1, min (rsT k).length 16, 0, if (rsT k).length = 0 then 0 else ((q % 5 : Nat) : Int), sn, 0⟩) := by
        show _ = _
        rw [← hsn]
        rfl
      have HK := Lib.hid (fun (w' : World) (t : Nat) (ht : t ≤ 60) (h : Sat w w' (PL g (TS 2 (rsT k) t) :: [])) => show Calls Try.prog 22 #[.pointer (some ⟨g, 0, none⟩)] w' (TickN w [] g (if (t + 1) % 5 = 0 then mn else 0) (TS 2 (rsT k) (t + 1))) by
        have := tick_n h HI2.out (by rw [rsT_length]; omega) (rsT_row (by omega)) (by omega)
        rw [rsT_length, hmn] at this
        exact this)
      have HLK : Hid ((rsT k).length = k) := rsT_length k
      clear S2 hd hlt hk hmn hd5 hsn hsb hms
      go_wp2_with fail
      go_loopw [7] (fun i wr => ∃ t : Nat, t ≤ q ∧ i = .int .i64 ((t : Int) + 1) ∧ Sat w wr (PL g (TS 2 (rsT k) t) :: [])) (fun i _ => q + 1 - (intOf i).toNat)
      case atStart => exact ⟨0, by omega, rfl, S3⟩
      case round =>
        clear S3
        obtain ⟨t, ht, rfl, S4⟩ := hrel
        have hw : IntKind.i64.wrap ((t : Int) + 1 + 1) = (t : Int) + 1 + 1 := by rw [IntKind.wrap_i64]; omega
        by_cases hlt : t < q
        · have hd : decide ((t : Int) + 1 ≤ (q : Int)) = true := decide_eq_true (by omega)
          by_cases h5 : (t + 1) % 5 = 0
          · have hr : (((t : Int) + 1) % 5 == 0) = true := by simp; omega
            have hmm : ((mn : Int) != (mn : Int)) = false := by simp
            have H5 := Lib.hid h5
            clear h5
            go_wp2_with (first
              | (go_at_call 22; refine (HK.out _ t (by omega) S4).mono ?_; unfold TickN; rw [if_pos H5.out]; rintro e w4 ⟨oa, oc, ou, rfl, S5⟩))
            exact ⟨⟨t + 1, by omega, by go_num, Sat.one S5.swap⟩, by simp [intOf]; omega⟩
          · have hr : (((t : Int) + 1) % 5 == 0) = false := by simp; omega
            have H5 := Lib.hid h5
            clear h5
            go_wp2_with (first
              | (go_at_call 22; refine (HK.out _ t (by omega) S4).mono ?_; unfold TickN; rw [if_neg H5.out]; rintro e w4 ⟨oa, oc, ou, rfl, S5⟩))
            exact ⟨⟨t + 1, by omega, by go_num, Sat.one S5.swap⟩, by simp [intOf]; omega⟩
        · have hd : decide ((t : Int) + 1 ≤ (q : Int)) = false := decide_eq_false (by omega)
          obtain rfl : t = q := by omega
          rw [HTS.out] at S4
          have hss : (sn == sn) = true := by simp
          have hkk : ((k : Int) == (k : Int)) = true := by simp
          clear hw hlt ht
          go_wp2_with (first
            | (go_at_call 20; refine (stats_any S4).mono ?_; rintro e w7 ⟨rfl, S7⟩; dsimp only)
            | (go_at_call 16; refine (left_any S7).mono ?_; dsimp only; rw [HLK.out]; rintro e w8 ⟨rfl, S8⟩)
            | (go_at_call 12; refine (known_any S8).mono ?_; rintro e w9 ⟨rfl, S9⟩))
          go_ret
          exact ⟨rfl, S9.below⟩
end Go.Proofs.Ytdgalljalcediaa
