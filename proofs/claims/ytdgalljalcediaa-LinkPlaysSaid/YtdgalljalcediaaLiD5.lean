/-
  link: the document's Hear.
-/
import Derived.Test.YtdgalljalcediaaLiD2
import Derived.Test.YtdgalljalcediaaLi7
import Derived.Test.YtdgalljalcediaaFr5
import Derived.Test.YtdgalljalcediaaFr6
namespace Go.Proofs.Ytdgalljalcediaa
open Go.RowKit Go.Sep Go.Oct
set_option linter.unusedSimpArgs false

theorem Sat.lower {W0 w : World} {M L : List Asn} (hd : ∀ h, (Sep.all M).holds h → (Sep.all L).holds h) : ∀ (As : List Asn), Sat W0 w (As ++ M) → Sat W0 w (As ++ L) := by
  intro As S
  refine ⟨S.below, (all_append As L _).2 ?_⟩
  exact star_mono (fun _ h => h) hd ((all_append As M _).1 S.own)
theorem all_drop {A : Asn} {M L : List Asn} (hd : ∀ h, (Sep.all M).holds h → (Sep.all L).holds h) : ∀ h, (Sep.all (A :: M)).holds h → (Sep.all L).holds h := fun h H => hd h (star_right H)
theorem openF_bytes {bs : List Int} (h : Bytes bs) : Bytes (openF bs).1 := by
  unfold openF
  split
  · split
    · exact decF_bytes h
    · intro x hx; simp at hx
  · intro x hx; simp at hx
theorem openF_length (bs : List Int) : (openF bs).1.length ≤ bs.length := by
  unfold openF
  split
  · split
    · exact decF_length bs
    · simp
  · simp
def HeardD (W0 : World) (L : List Asn) (g : Nat) (r : List (List Int) × List (List Int) × LS) (e : Ending) (w' : World) : Prop :=
  ∃ ra rc oa oc, e = .returned (.tuple #[.slice ra r.1.length rc, .slice oa r.2.1.length oc]) ∧ Sat W0 w' (brs ra r.1.length rc r.1 :: brs oa r.2.1.length oc r.2.1 :: DL g r.2.2 :: L)

set_option maxRecDepth 100000 in
set_option maxHeartbeats 12800000 in
theorem r16hear_any {W0 w : World} {L : List Asn} {g : Nat} {s : LS} {N : Int} (S : Sat W0 w (DL g s :: L)) (ok : s.Ok N) (hN : N ≤ 900000000000) {a : Option Addr} {m c : Nat} {b : List Int} (hR : ∀ w', Sat W0 w' L → Rd w' a (bv b)) (hm : b.length = m) (hB : Bytes b) (hmc : m ≤ c) (hcm : c ≤ maxLen) (hb : m ≤ 1000000000) :
    Calls Try.prog 18 #[.pointer (some ⟨g, 0, none⟩), .slice a m c] w (HeardD W0 L g (hearP s b)) := by
  have HOP := Lib.hid (open_any S (fun w' h => hR w' h.tail) hm hB hmc hcm hb)
  have hP1 : refused s b → hearP s b = _ := hearP_bad
  have hP2 : ¬ refused s b → hearP s b = _ := hearP_ok
  have hrf : refused s b ↔ (¬ ((openF b).2 = 0 ∧ (lparts (openF b).1).fin = 0 ∧ 0 ≤ (lparts (openF b).1).n ∧ 0 ≤ (lparts (openF b).1).ack ∧ (lparts (openF b).1).row.length ≤ 4096) ∨ (lparts (openF b).1).id ≠ s.id) := Iff.rfl
  have HOK := Lib.hid ok
  have HN := Lib.hid hN
  have hxb := openF_bytes hB
  have hxl := openF_length b
  rw [hm] at hxl
  obtain ⟨i0, hi, hz0, hz1, hz2⟩ := info_parts Try.infoR
  obtain ⟨j0, hj, jz0, jz1, jz2⟩ := info_parts Try.infoB
  generalize refused s b = rf at hP1 hP2 hrf
  generalize hearP s b = R at hP1 hP2 ⊢
  generalize openF b = O at HOP hP1 hP2 hrf hxb hxl
  obtain ⟨x, er⟩ := O
  dsimp only at hP1 hP2 hrf hxb hxl
  obtain ⟨id, s1, e1, h1⟩ : ∃ id s1 e1, rdNum x 0 = (id, s1, e1) := ⟨_, _, _, rfl⟩
  obtain ⟨n, s2, e2, h2⟩ : ∃ n s2 e2, rdNum s1 e1 = (n, s2, e2) := ⟨_, _, _, rfl⟩
  obtain ⟨ack, s3, e3, h3⟩ : ∃ ack s3 e3, rdNum s2 e2 = (ack, s3, e3) := ⟨_, _, _, rfl⟩
  have hz01 : e1 ≠ 0 → s1 = [] := fun h => by have := (rdNum_fails (bs := x) (e := 0) (fun h => absurd rfl h) (by rw [h1]; exact h)).2; rw [h1] at this; exact this
  have hz02 : e2 ≠ 0 → s2 = [] := fun h => by have := (rdNum_fails (bs := s1) (e := e1) hz01 (by rw [h2]; exact h)).2; rw [h2] at this; exact this
  have hz03 : e3 ≠ 0 → s3 = [] := fun h => by have := (rdNum_fails (bs := s2) (e := e2) hz02 (by rw [h3]; exact h)).2; rw [h3] at this; exact this
  have HZ1 := Lib.hid hz01
  have HZ2 := Lib.hid hz02
  have HZ3 := Lib.hid hz03
  have e1' : lq1 x = (id, s1, e1) := h1
  have e2' : lq2 x = (n, s2, e2) := by unfold lq2; rw [e1']; exact h2
  have e3' : lq3 x = (ack, s3, e3) := by unfold lq3; rw [e2']; exact h3
  have E1 := Lib.hid h1
  have E2 := Lib.hid h2
  have E3 := Lib.hid h3
  have HXB := Lib.hid hxb
  clear h1 h2 h3 hz01 hz02 hz03 hR hm hB hmc hcm hb hxb hN ok
  by_cases h0 : 0 < n
  · have hd0 : decide (0 < n) = true := decide_eq_true h0
    obtain ⟨qr, s4, e4, h4⟩ : ∃ row s4 e4, rdBytes s3 e3 = (row, s4, e4) := ⟨_, _, _, rfl⟩
    have e4' : lq4 x = (qr, s4, e4) := by unfold lq4; rw [e2', e3', if_pos h0]; exact h4
    have hq : lparts x = ⟨id, n, ack, qr, endsF s4 e4⟩ := by unfold lparts; rw [e1', e2', e3', e4']
    have hfe : endsF s4 e4 = endOf s4 e4 := rfl
    have E4 := Lib.hid h4
    rw [hq] at hP2 hrf
    dsimp only at hP1 hP2 hrf
    clear h4 e1' e2' e3' e4' hq
    have hn3 : decide (n < 0) = false := decide_eq_false (by omega)
    go_enter Try.func18, Try.ntmps18
    go_upto_region 7 with (first
    | (go_at_call 32; refine HOP.out.mono ?_; unfold Opened; rintro e w2 ⟨ao, cap, rfl, S2⟩; dsimp only at S2; have H3 : Rest W0 (sbs ao x.length cap x :: DL g s :: L) ao x.length cap x := ⟨fun w' h => h.own_rd, rfl, (sbs_rd S2).2.2.1, S2.own_len.2.2.1, HXB.out⟩; have HH3 := Lib.hid H3; clear H3; have S3 := S2.alloc [.slice ao x.length cap, .int .i64 0] 82)
    | (go_at_call 33; refine (r1Num_any (fun _ h => h) HH5.out HZ2.out S5).mono ?_; unfold Given; rw [E3.out]; dsimp only; rintro e w6 ⟨a6, n6, c6, H6, rfl, S6⟩; have HH6 := Lib.hid H6; clear H6)
    | (go_at_call 33; refine (r1Num_any (fun _ h => h) HH4.out HZ1.out S4).mono ?_; unfold Given; rw [E2.out]; dsimp only; rintro e w5 ⟨a5, n5, c5, H5, rfl, S5⟩; have HH5 := Lib.hid H5; clear H5)
    | (go_at_call 33; refine (r1Num_any (fun _ h => h) HH3.out (fun h => absurd rfl h) S3).mono ?_; unfold Given; rw [E1.out]; dsimp only; rintro e w4 ⟨a4, n4, c4, H4, rfl, S4⟩; have HH4 := Lib.hid H4; clear H4)
    | (go_at_call 34; refine (r1Bytes_any (fun _ h => h) HH6.out HZ3.out S6).mono ?_; unfold Byted; rw [E4.out]; dsimp only; rintro e w7 ⟨bo, bc, a7, n7, c7, H7, rfl, S7⟩; have HH7 := Lib.hid H7; clear H7))
    have SR := S7.sel [1]
    have hlb := S7.own_len
    clear S S2 S3 S4 S5 S6
    obtain ⟨ra1, rc1, S8⟩ := DL_open.1 (S7.sel [3])
    clear S7
    have hwv : IntKind.i64.wrap (s.vain + 1) = s.vain + 1 := by have := HN.out; have := HOK.out.v0; have := HOK.out.vN; rw [IntKind.wrap_i64]; omega
    have c0 := S8.cell 0 rfl 0
    have c7' := S8.cell 0 rfl 7
    have f7' := S8.frozen 0 rfl 7
    simp only [List.getElem?_cons_zero, List.getElem?_cons_succ] at c0 c7'
    by_cases q1 : er = 0
    case neg =>
      have hz : (er != 0) = true := by simpa using q1
      have hR0 : R = _ := hP1 (hrf.2 (.inl (fun x => by exact absurd x.1 q1)))
      clear hP1 hP2 hrf
      subst hR0
      have S9 := S8.setCell (k := 7) (v := .int .i64 (s.vain + 1)) 0 rfl
      go_wp2_with (first
        | (go_at_call 35; refine (r1End_any HH7.out SR).mono ?_; rintro e wE ⟨rfl, rfl⟩))
      go_ret2
      exact ⟨none, 0, none, 0, rfl, brs_none (brs_none (DL_open.2 ⟨ra1, rc1, ((S9.sel [2, 2, 2]).tail.tail.tail)⟩))⟩
    have hz : (er != 0) = false := by simpa using q1
    by_cases q2 : endOf s4 e4 = 0
    case neg =>
      have hz2' : (endOf s4 e4 != 0) = true := by simpa using q2
      have hR0 : R = _ := hP1 (hrf.2 (.inl (fun x => by exact q2 (hfe.symm.trans x.2.1))))
      clear hP1 hP2 hrf
      subst hR0
      have S9 := S8.setCell (k := 7) (v := .int .i64 (s.vain + 1)) 0 rfl
      go_wp2_with (first
        | (go_at_call 35; refine (r1End_any HH7.out SR).mono ?_; rintro e wE ⟨rfl, rfl⟩))
      go_ret2
      exact ⟨none, 0, none, 0, rfl, brs_none (brs_none (DL_open.2 ⟨ra1, rc1, ((S9.sel [2, 2, 2]).tail.tail.tail)⟩))⟩
    have hz2' : (endOf s4 e4 != 0) = false := by simpa using q2
    by_cases q4 : 0 ≤ ack
    case neg =>
      have hz4' : decide (ack < 0) = true := decide_eq_true (by omega)
      have hR0 : R = _ := hP1 (hrf.2 (.inl (fun x => by have := x.2.2.2.1; omega)))
      clear hP1 hP2 hrf
      subst hR0
      have S9 := S8.setCell (k := 7) (v := .int .i64 (s.vain + 1)) 0 rfl
      go_wp2_with (first
        | (go_at_call 35; refine (r1End_any HH7.out SR).mono ?_; rintro e wE ⟨rfl, rfl⟩))
      go_ret2
      exact ⟨none, 0, none, 0, rfl, brs_none (brs_none (DL_open.2 ⟨ra1, rc1, ((S9.sel [2, 2, 2]).tail.tail.tail)⟩))⟩
    have hz4' : decide (ack < 0) = false := decide_eq_false (by omega)
    by_cases q5 : qr.length ≤ 4096
    case neg =>
      have hz5' : decide ((4096 : Int) < ((qr.length : Nat) : Int)) = true := decide_eq_true (by omega)
      have hR0 : R = _ := hP1 (hrf.2 (.inl (fun x => by have := x.2.2.2.2; omega)))
      clear hP1 hP2 hrf
      subst hR0
      have S9 := S8.setCell (k := 7) (v := .int .i64 (s.vain + 1)) 0 rfl
      go_wp2_with (first
        | (go_at_call 35; refine (r1End_any HH7.out SR).mono ?_; rintro e wE ⟨rfl, rfl⟩))
      go_ret2
      exact ⟨none, 0, none, 0, rfl, brs_none (brs_none (DL_open.2 ⟨ra1, rc1, ((S9.sel [2, 2, 2]).tail.tail.tail)⟩))⟩
    have hz5' : decide ((4096 : Int) < ((qr.length : Nat) : Int)) = false := decide_eq_false (by omega)
    by_cases q6 : id = s.id
    case neg =>
      have hz6' : (id != s.id) = true := by simpa using q6
      have hR0 : R = _ := hP1 (hrf.2 (.inr q6))
      clear hP1 hP2 hrf
      subst hR0
      have S9 := S8.setCell (k := 7) (v := .int .i64 (s.vain + 1)) 0 rfl
      go_wp2_with (first
        | (go_at_call 35; refine (r1End_any HH7.out SR).mono ?_; rintro e wE ⟨rfl, rfl⟩))
      go_ret2
      exact ⟨none, 0, none, 0, rfl, brs_none (brs_none (DL_open.2 ⟨ra1, rc1, ((S9.sel [2, 2, 2]).tail.tail.tail)⟩))⟩
    have hz6' : (id != s.id) = false := by simpa using q6
    have hP := hP2 (fun x => (hrf.1 x).elim (fun x => x ⟨q1, hfe.trans q2, (by omega), q4, q5⟩) (fun x => x q6))
    clear hP1 hP2 hrf
    obtain ⟨t, ht⟩ : ∃ t, gotP s ⟨id, n, ack, qr, endsF s4 e4⟩ = t := ⟨_, rfl⟩
    obtain ⟨nr, hnr⟩ : ∃ nr, newRows s ⟨id, n, ack, qr, endsF s4 e4⟩ = nr := ⟨_, rfl⟩
    obtain ⟨out, f, hf⟩ : ∃ out f, fillP t = (out, f) := ⟨_, _, rfl⟩
    rw [ht, hnr, hf] at hP
    have hRR : R = if 0 < n ∧ out = [] then (nr, [packP f.id 0 f.came []], { f with sent := f.sent + 1 }) else (nr, out, f) := hP
    have HRR := Lib.hid hRR
    have htok := HOK.out.got ⟨id, n, ack, qr, endsF s4 e4⟩
    rw [ht] at htok
    have hfok := htok.fill
    rw [hf] at hfok
    have HFOK : Hid (f.Ok (N + 17 + 16)) := hfok
    have HFILL := Lib.hid (fun (w' : World) (L : List Asn) (h : Sat W0 w' (DL g t :: L)) => show Calls Try.prog 36 #[.pointer (some ⟨g, 0, none⟩)] w' (Outs W0 (DL g f :: L) out) by
      have := goes_any h htok (by have := HN.out; omega); rw [hf] at this; exact this)
    have HT := Lib.hid ht
    have HNR := Lib.hid hnr
    clear hP hRR ht hnr hf htok hfok
    go_wp2_with (first
      | (go_at_call 35; refine (r1End_any HH7.out SR).mono ?_; rintro e wE ⟨rfl, rfl⟩))
    obtain ⟨hs, -, hl, SB⟩ := brs_out S8.swap
    have SL0 := SB.sel [2]
    clear SB S8 SR c0 c7' f7'
    obtain ⟨M, hM⟩ : ∃ M, (sbs bo qr.length bc qr :: R1 w2.heap.size a7 n7 c7 e4 :: sbs ao x.length cap x :: L) = M := ⟨_, rfl⟩
    have SL : Sat W0 w7 (DKs g s ra1 rc1 :: slc 29 1 ra1 s.rows.length rc1 (hs.map hv) :: rowsB hs s.rows :: M) := by rw [← hM]; exact SL0
    have HMD : ∀ h, (Sep.all M).holds h → (Sep.all L).holds h := by rw [← hM]; exact all_drop (all_drop (all_drop (fun _ h => h)))
    have HROW : Hid (∀ w', Sat W0 w' M → Rd w' bo (bv qr)) := by show ∀ w', _; rw [← hM]; exact fun w' h => h.own_rd
    clear hM SL0 HH3 HH4 HH5 HH6 HH7 HOP E1 E2 E3 E4
    have hqp : 0 < n := h0
    clear h0
    go_loopw [] (fun wr => ∃ (s1 : LS) (ra : Option Addr) (rc : Nat) (hs : List Hd), Hid (s1.Ok (N + 16 - s1.under)) ∧ Hid (ackP ack s1.under s1 = ackP ack s.under s) ∧ Sat W0 wr (DKs g s1 ra rc :: slc 29 1 ra s1.rows.length rc (hs.map hv) :: rowsB hs s1.rows :: M)) (fun wr => cellN wr g 2)
    case atStart =>
      exact ⟨s, ra1, rc1, hs, HOK.out.mono (by have := HOK.out.u16; omega), rfl, SL⟩
    case round =>
      clear SL
      obtain ⟨s1, ra, rc, hs, HO1, HA, S9⟩ := hrel
      have hmeas : cellN wr g 2 = s1.under := by
        have := S9.cell 0 rfl 2
        unfold cellN
        rw [this]
        simp
      have hul := HO1.out.ul
      have hu16 := HO1.out.u16
      by_cases hco : 0 < s1.under ∧ s1.first ≤ ack
      · have hw1 : IntKind.i64.wrap (s1.first + 1) = s1.first + 1 := by have := HN.out; have := HO1.out.f1; have := HO1.out.fN; rw [IntKind.wrap_i64]; omega
        obtain ⟨si, rows, first, under, came, waited, sent, vain⟩ := s1
        dsimp only at *
        have hl1 := rowsB_len (S9.sel [2])
        cases rows with
        | nil => simp at hul; omega
        | cons xx xs =>
        cases hs with
        | nil => simp at hl1
        | cons hd ht =>
        obtain ⟨rb, ro, rfl, -⟩ := (S9.sel [1]).own_rd 0 (hv hd) rfl
        have hlen := (S9.sel [1]).own_len
        obtain ⟨u, rfl⟩ : ∃ u, under = u + 1 := ⟨under - 1, by omega⟩
        have S11 : Sat W0 wr (blk g [.int .i64 si, .slice (some ⟨rb, ro, none⟩) (xs.length + 1) rc, .int .i64 ((u : Int) + 1), .int .i64 first, .int .i64 came, .int .i64 waited, .int .i64 sent, .int .i64 vain] 41 :: slc 29 1 (some ⟨rb, ro, none⟩) (xs.length + 1) rc (hv hd :: ht.map hv) :: rowsB ht xs :: M) := (rowsB_tail (S9.sel [2])).sel [1, 1]
        have n1 := S11.cell 0 rfl 1
        have n2 := S11.cell 0 rfl 2
        have n3 := S11.cell 0 rfl 3
        have m1 := S11.frozen 0 rfl 1
        have m2 := S11.frozen 0 rfl 2
        have m3 := S11.frozen 0 rfl 3
        simp only [List.getElem?_cons_zero, List.getElem?_cons_succ] at n1 n2 n3
        have hw3 : IntKind.i64.wrap ((u : Int) + 1 - 1) = (u : Int) := by rw [IntKind.wrap_i64]; omega
        have hw4 : IntKind.i64.wrap (u : Int) = (u : Int) := by rw [IntKind.wrap_i64]; omega
        have hd1 : decide ((0 : Int) < (u : Int) + 1) = true := decide_eq_true (by omega)
        have hd2 : decide (first ≤ ack) = true := decide_eq_true hco.2
        have hpop : LS.Ok (N + 16 - (u : Int)) ⟨si, xs, first + 1, u, came, waited, sent, vain⟩ := (HO1.out.pop rfl).mono (by simp only [Int.natCast_add]; omega)
        have hack : ackP ack u ⟨si, xs, first + 1, u, came, waited, sent, vain⟩ = ackP ack s.under s := by
          rw [← HA.out]
          exact (show ackP ack (u + 1) ⟨si, xx :: xs, first, u + 1, came, waited, sent, vain⟩ = ackP ack u ⟨si, xs, first + 1, u, came, waited, sent, vain⟩ from if_pos hco.2).symm
        have HPOP := Lib.hid hpop
        have HACK := Lib.hid hack
        clear hpop hack HO1 HA S9
        by_cases hrc : rc = 1
        · subst hrc
          have S12 := ((S11.setCell (k := 1) (v := .slice (some ⟨rb, ro, none⟩) xs.length 0) 0 rfl).setCell (k := 3) (v := .int .i64 (first + 1)) 0 rfl).setCell (k := 2) (v := .int .i64 (u : Int)) 0 rfl
          go_wp2_with fail
          have hcell := S12.cell 0 rfl 2
          obtain ⟨e0, ex, S13⟩ := own_last (S12.sel [1])
          refine ⟨⟨⟨si, xs, first + 1, u, came, waited, sent, vain⟩, some ⟨rb, ro, none⟩, 0, ht, HPOP, HACK, ?_⟩, ?_⟩
          · have S14 : Sat W0 (((wr.setCell ⟨g, 1, none⟩ (.slice (some ⟨rb, ro, none⟩) xs.length 0)).setCell ⟨g, 3, none⟩ (.int .i64 (first + 1))).setCell ⟨g, 2, none⟩ (.int .i64 (u : Int))) (blk g [.int .i64 si, .slice (some ⟨rb, ro, none⟩) xs.length 0, .int .i64 (u : Int), .int .i64 (first + 1), .int .i64 came, .int .i64 waited, .int .i64 sent, .int .i64 vain] 41 :: slc 29 1 (some ⟨rb, ro, none⟩) xs.length 0 (ht.map hv) :: rowsB ht xs :: M) := by
              have e9 : slc 29 1 (some ⟨rb, ro, none⟩) xs.length 0 (ht.map hv) = slc 29 1 (some ⟨rb, ro, none⟩) 0 0 [] := by rw [e0, ex]
              rw [e9]
              exact S13.swap
            exact S14
          · rw [hmeas]
            unfold cellN
            rw [hcell]
            simp
        · have hrc1 : 1 < rc := by omega
          have S12 := ((S11.setCell (k := 1) (v := .slice (some ⟨rb, ro + 1, none⟩) xs.length (rc - 1)) 0 rfl).setCell (k := 3) (v := .int .i64 (first + 1)) 0 rfl).setCell (k := 2) (v := .int .i64 (u : Int)) 0 rfl
          go_wp2_with fail
          have hcell := S12.cell 0 rfl 2
          have S13 := own_next (S12.sel [1])
          refine ⟨⟨⟨si, xs, first + 1, u, came, waited, sent, vain⟩, some ⟨rb, ro + 1, none⟩, rc - 1, ht, HPOP, HACK, ?_⟩, ?_⟩
          · exact S13.swap
          · rw [hmeas]
            unfold cellN
            rw [hcell]
            simp
      · have HS1 : Hid (ackP ack s.under s = s1) := by
          show _ = _
          rw [← HA.out]
          obtain ⟨si, rows, first, under, came, waited, sent, vain⟩ := s1
          cases under with
          | zero => rfl
          | succ u => exact if_neg (fun x => hco ⟨by simp, x⟩)
        clear HA
        have hw8 : IntKind.i64.wrap (s1.came + 1) = s1.came + 1 := by have := HN.out; have := HO1.out.c0; have := HO1.out.cN; rw [IntKind.wrap_i64]; omega
        have hw9 : IntKind.i64.wrap (s1.vain + 1) = s1.vain + 1 := by have := HN.out; have := HO1.out.v0; have := HO1.out.vN; rw [IntKind.wrap_i64]; omega
        have k2 := S9.cell 0 rfl 2
        have k3 := S9.cell 0 rfl 3
        have k4 := S9.cell 0 rfl 4
        have k7 := S9.cell 0 rfl 7
        have q4 := S9.frozen 0 rfl 4
        have q7 := S9.frozen 0 rfl 7
        simp only [List.getElem?_cons_zero, List.getElem?_cons_succ] at k2 k3 k4 k7
        by_cases h0 : s1.under = 0
        · have hd1 : decide ((0 : Int) < ((s1.under : Nat) : Int)) = false := decide_eq_false (by omega)
          rw [h0] at k2
          clear hd1 hmeas hul hu16 hco
          have hca : s1.came = s.came := by rw [← HS1.out]; exact (ackP_id _ _).2.1
          by_cases hq1 : n = s1.came + 1
          · have hqe : (n == s1.came + 1) = true := by simpa using hq1
            have et : t = { s1 with came := s1.came + 1 } := by rw [← HT.out]; unfold gotP; dsimp only; rw [HS1.out, if_neg (by omega), if_pos hq1]
            have hnr : nr = [qr] := by rw [← HNR.out, newRows_eq]; exact if_pos ⟨(show n ≠ 0 by omega), by rw [← hca]; exact hq1⟩
            have HHA : Hid (t = { s1 with came := s1.came + 1 }) := et
            clear et hca hq1 HT HNR
            have U1 := S9.setCell (k := 4) (v := .int .i64 (s1.came + 1)) 0 rfl
            have U2 := Sat.own_new (n := 0) (cap := 0) (size := 1) (xs := []) (post := []) (U1.alloc [] 5) rfl (Nat.le_refl _) (by unfold maxLen; omega) (by simp)
            simp only [World.size_setCell] at U2
            go_wp2_with (first
              | (at_builtin; refine wpList_append_sat rfl (.tmp 122) (.tmp 123) _ rfl 5 j0 (.int .u8 0) 1 1 Try.underlying29 hj jz0 jz1 jz2 rfl (by decide) U2 rfl rfl (HROW.out _ U2.tail.tail.tail.tail) (by rw [bv_length, Nat.mul_one]) (bv_one _) (by unfold maxLen; omega) (by omega) ?_; intro pa pc w7 U3; rw [Nat.zero_add] at U3 ⊢; have U4 := (Sat.own_none (e := 29) (size := 1) (n := 0) (cap := 0) (xs := [])).2 ⟨rfl, rfl, rfl, U3⟩; have U5 := U4.alloc [.slice pa qr.length pc] 29)
              | (at_builtin; refine wpList_append_sat rfl (.tmp 121) (.tmp 125) _ rfl 29 i0 _ 1 24 Try.underlying25 hi hz0 hz1 hz2 rfl (by decide) (U5.sel [1]) rfl rfl (Rd.lit (U5.block 0 rfl).1) (by rfl) (by simp [Value.oneCell']) (by unfold maxLen; simp) (by simp) ?_; intro ra9 rc9 w9 U6; have U7 := (U6.sel [0, 1]).emp.sel [1, 1]; have U8 := brs_push (hs := []) (rs := []) (r := qr) rfl U7; have U9 := brs_in rfl (U8.sel [3, 3]); have SP0 : Sat W0 w9 (DL g { s1 with came := s1.came + 1 } :: _) := DL_open.2 ⟨ra, rc, U9.sel [3]⟩; rw [← HHA.out] at SP0; have SP := (SP0.sel [2]).tail)
              | fail)
            by_cases hz : out = []
            · have hR0 : R = (nr, [packP f.id 0 f.came []], { f with sent := f.sent + 1 }) := by rw [HRR.out, if_pos ⟨hqp, hz⟩]
              subst hR0 hnr
              have hI := HFOK.out.id
              have HI := Lib.hid hI
              have hfc := HFOK.out.i64 (by have := HN.out; omega)
              have HCI := Lib.hid hfc
              have hfs : 0 ≤ f.sent ∧ f.sent ≤ 1000000000000000 := ⟨HFOK.out.s0, by have := HFOK.out.sN; have := HN.out; omega⟩
              have HFS := Lib.hid hfs
              clear hI hfc hfs
              subst hz
              go_wp2_with (first
                | (go_at_call 36; refine (HFILL.out _ _ SP).mono ?_; unfold Outs; rintro e w8 ⟨oa, oc, rfl, S11⟩; obtain ⟨fa, fc, S12⟩ := DL_open.1 S11.swap)
                | (go_at_call 37; refine (r16packet_none (S12 : Sat W0 _ (DK g f.id _ f.first (f.under : Int) f.came f.waited f.sent f.vain :: _)) HI.out HCI.out HFS.out).mono ?_; unfold Packed; rintro e w9 ⟨ka, kc, rfl, S13⟩; have S14 := S13.alloc [.slice ka (packP f.id 0 f.came []).length kc] 29; obtain ⟨ho, -, hol, S15⟩ := brs_out (S14.sel [4]))
                | (at_builtin; refine wpList_append_sat rfl (.tmp 145) (.tmp 148) _ rfl 29 i0 _ 1 24 Try.underlying25 hi hz0 hz1 hz2 rfl (by decide) S15 rfl rfl (Rd.lit (S14.block 0 rfl).1) (by rfl) (by simp [Value.oneCell']) (by unfold maxLen; simp) (by simp) ?_; intro ao16 cp16 w16 S16))
              go_ret2
              have T1 := brs_push (rs := []) rfl (S16.sel [0, 2, 0])
              have T2 := ((T1.sel [1]).tail.sel [1, 1])
              have T3 : Sat W0 _ (DL g { f with sent := f.sent + 1 } :: brs ao16 (0 + 1) cp16 ([] ++ [packP f.id 0 f.came []]) :: _) := DL_open.2 ⟨fa, fc, T2⟩
              exact ⟨ra9, rc9, _, _, rfl, Sat.lower HMD [brs ra9 1 rc9 [qr], _, _] ((T3.swap).sel [2])⟩
            · have hR0 : R = (nr, out, f) := by rw [HRR.out, if_neg (fun x => hz x.2)]
              subst hR0 hnr
              have hzl : (((out.length : Nat) : Int) == 0) = false := by
                cases out with
                | nil => exact absurd rfl hz
                | cons x r => simp; omega
              clear hz
              go_wp2_with (first | (go_at_call 36; refine (HFILL.out _ _ SP).mono ?_; unfold Outs; rintro e w8 ⟨oa, oc, rfl, S11⟩))
              go_ret2
              exact ⟨ra9, rc9, _, _, rfl, Sat.lower HMD [brs ra9 1 rc9 [qr], _, _] ((S11).sel [2])⟩
          · have hqe : (n == s1.came + 1) = false := by simpa using hq1
            have et : t = { s1 with vain := s1.vain + 1 } := by rw [← HT.out]; unfold gotP; dsimp only; rw [HS1.out, if_neg (by omega), if_neg hq1]
            have hnr : nr = [] := by rw [← HNR.out, newRows_eq]; exact if_neg (fun x => hq1 (by rw [hca]; exact x.2))
            have HHA : Hid (t = { s1 with vain := s1.vain + 1 }) := et
            clear et hca hq1 HT HNR
            have U1 := S9.setCell (k := 7) (v := .int .i64 (s1.vain + 1)) 0 rfl
            have SP : Sat W0 _ (DL g { s1 with vain := s1.vain + 1 } :: _) := DL_open.2 ⟨ra, rc, (brs_in rfl (U1.sel [1, 1]) : Sat W0 _ (brs ra s1.rows.length rc s1.rows :: _)).swap⟩
            rw [← HHA.out] at SP
            by_cases hz : out = []
            · have hR0 : R = (nr, [packP f.id 0 f.came []], { f with sent := f.sent + 1 }) := by rw [HRR.out, if_pos ⟨hqp, hz⟩]
              subst hR0 hnr
              have hI := HFOK.out.id
              have HI := Lib.hid hI
              have hfc := HFOK.out.i64 (by have := HN.out; omega)
              have HCI := Lib.hid hfc
              have hfs : 0 ≤ f.sent ∧ f.sent ≤ 1000000000000000 := ⟨HFOK.out.s0, by have := HFOK.out.sN; have := HN.out; omega⟩
              have HFS := Lib.hid hfs
              clear hI hfc hfs
              subst hz
              go_wp2_with (first
                | (go_at_call 36; refine (HFILL.out _ _ SP).mono ?_; unfold Outs; rintro e w8 ⟨oa, oc, rfl, S11⟩; obtain ⟨fa, fc, S12⟩ := DL_open.1 S11.swap)
                | (go_at_call 37; refine (r16packet_none (S12 : Sat W0 _ (DK g f.id _ f.first (f.under : Int) f.came f.waited f.sent f.vain :: _)) HI.out HCI.out HFS.out).mono ?_; unfold Packed; rintro e w9 ⟨ka, kc, rfl, S13⟩; have S14 := S13.alloc [.slice ka (packP f.id 0 f.came []).length kc] 29; obtain ⟨ho, -, hol, S15⟩ := brs_out (S14.sel [4]))
                | (at_builtin; refine wpList_append_sat rfl (.tmp 145) (.tmp 148) _ rfl 29 i0 _ 1 24 Try.underlying25 hi hz0 hz1 hz2 rfl (by decide) S15 rfl rfl (Rd.lit (S14.block 0 rfl).1) (by rfl) (by simp [Value.oneCell']) (by unfold maxLen; simp) (by simp) ?_; intro ao16 cp16 w16 S16))
              go_ret2
              have T1 := brs_push (rs := []) rfl (S16.sel [0, 2, 0])
              have T2 := ((T1.sel [1]).tail.sel [1, 1])
              have T3 : Sat W0 _ (DL g { f with sent := f.sent + 1 } :: brs ao16 (0 + 1) cp16 ([] ++ [packP f.id 0 f.came []]) :: _) := DL_open.2 ⟨fa, fc, T2⟩
              exact ⟨none, 0, _, _, rfl, brs_none (Sat.lower HMD [_, _] (T3.swap))⟩
            · have hR0 : R = (nr, out, f) := by rw [HRR.out, if_neg (fun x => hz x.2)]
              subst hR0 hnr
              have hzl : (((out.length : Nat) : Int) == 0) = false := by
                cases out with
                | nil => exact absurd rfl hz
                | cons x r => simp; omega
              clear hz
              go_wp2_with (first | (go_at_call 36; refine (HFILL.out _ _ SP).mono ?_; unfold Outs; rintro e w8 ⟨oa, oc, rfl, S11⟩))
              go_ret2
              exact ⟨none, 0, _, _, rfl, brs_none (Sat.lower HMD [_, _] (S11))⟩
        · have hd1 : decide ((0 : Int) < ((s1.under : Nat) : Int)) = true := decide_eq_true (by omega)
          have hd2 : decide (s1.first ≤ ack) = false := decide_eq_false (fun x => hco ⟨by omega, x⟩)
          have hd3 : 0 < s1.under := by omega
          clear hmeas hul hu16 hco h0
          have hca : s1.came = s.came := by rw [← HS1.out]; exact (ackP_id _ _).2.1
          by_cases hq1 : n = s1.came + 1
          · have hqe : (n == s1.came + 1) = true := by simpa using hq1
            have et : t = { s1 with came := s1.came + 1 } := by rw [← HT.out]; unfold gotP; dsimp only; rw [HS1.out, if_neg (by omega), if_pos hq1]
            have hnr : nr = [qr] := by rw [← HNR.out, newRows_eq]; exact if_pos ⟨(show n ≠ 0 by omega), by rw [← hca]; exact hq1⟩
            have HHA : Hid (t = { s1 with came := s1.came + 1 }) := et
            clear et hca hq1 HT HNR
            have U1 := S9.setCell (k := 4) (v := .int .i64 (s1.came + 1)) 0 rfl
            have U2 := Sat.own_new (n := 0) (cap := 0) (size := 1) (xs := []) (post := []) (U1.alloc [] 5) rfl (Nat.le_refl _) (by unfold maxLen; omega) (by simp)
            simp only [World.size_setCell] at U2
            go_wp2_with (first
              | (at_builtin; refine wpList_append_sat rfl (.tmp 122) (.tmp 123) _ rfl 5 j0 (.int .u8 0) 1 1 Try.underlying29 hj jz0 jz1 jz2 rfl (by decide) U2 rfl rfl (HROW.out _ U2.tail.tail.tail.tail) (by rw [bv_length, Nat.mul_one]) (bv_one _) (by unfold maxLen; omega) (by omega) ?_; intro pa pc w7 U3; rw [Nat.zero_add] at U3 ⊢; have U4 := (Sat.own_none (e := 29) (size := 1) (n := 0) (cap := 0) (xs := [])).2 ⟨rfl, rfl, rfl, U3⟩; have U5 := U4.alloc [.slice pa qr.length pc] 29)
              | (at_builtin; refine wpList_append_sat rfl (.tmp 121) (.tmp 125) _ rfl 29 i0 _ 1 24 Try.underlying25 hi hz0 hz1 hz2 rfl (by decide) (U5.sel [1]) rfl rfl (Rd.lit (U5.block 0 rfl).1) (by rfl) (by simp [Value.oneCell']) (by unfold maxLen; simp) (by simp) ?_; intro ra9 rc9 w9 U6; have U7 := (U6.sel [0, 1]).emp.sel [1, 1]; have U8 := brs_push (hs := []) (rs := []) (r := qr) rfl U7; have U9 := brs_in rfl (U8.sel [3, 3]); have SP0 : Sat W0 w9 (DL g { s1 with came := s1.came + 1 } :: _) := DL_open.2 ⟨ra, rc, U9.sel [3]⟩; rw [← HHA.out] at SP0; have SP := (SP0.sel [2]).tail)
              | fail)
            by_cases hz : out = []
            · have hR0 : R = (nr, [packP f.id 0 f.came []], { f with sent := f.sent + 1 }) := by rw [HRR.out, if_pos ⟨hqp, hz⟩]
              subst hR0 hnr
              have hI := HFOK.out.id
              have HI := Lib.hid hI
              have hfc := HFOK.out.i64 (by have := HN.out; omega)
              have HCI := Lib.hid hfc
              have hfs : 0 ≤ f.sent ∧ f.sent ≤ 1000000000000000 := ⟨HFOK.out.s0, by have := HFOK.out.sN; have := HN.out; omega⟩
              have HFS := Lib.hid hfs
              clear hI hfc hfs
              subst hz
              go_wp2_with (first
                | (go_at_call 36; refine (HFILL.out _ _ SP).mono ?_; unfold Outs; rintro e w8 ⟨oa, oc, rfl, S11⟩; obtain ⟨fa, fc, S12⟩ := DL_open.1 S11.swap)
                | (go_at_call 37; refine (r16packet_none (S12 : Sat W0 _ (DK g f.id _ f.first (f.under : Int) f.came f.waited f.sent f.vain :: _)) HI.out HCI.out HFS.out).mono ?_; unfold Packed; rintro e w9 ⟨ka, kc, rfl, S13⟩; have S14 := S13.alloc [.slice ka (packP f.id 0 f.came []).length kc] 29; obtain ⟨ho, -, hol, S15⟩ := brs_out (S14.sel [4]))
                | (at_builtin; refine wpList_append_sat rfl (.tmp 145) (.tmp 148) _ rfl 29 i0 _ 1 24 Try.underlying25 hi hz0 hz1 hz2 rfl (by decide) S15 rfl rfl (Rd.lit (S14.block 0 rfl).1) (by rfl) (by simp [Value.oneCell']) (by unfold maxLen; simp) (by simp) ?_; intro ao16 cp16 w16 S16))
              go_ret2
              have T1 := brs_push (rs := []) rfl (S16.sel [0, 2, 0])
              have T2 := ((T1.sel [1]).tail.sel [1, 1])
              have T3 : Sat W0 _ (DL g { f with sent := f.sent + 1 } :: brs ao16 (0 + 1) cp16 ([] ++ [packP f.id 0 f.came []]) :: _) := DL_open.2 ⟨fa, fc, T2⟩
              exact ⟨ra9, rc9, _, _, rfl, Sat.lower HMD [brs ra9 1 rc9 [qr], _, _] ((T3.swap).sel [2])⟩
            · have hR0 : R = (nr, out, f) := by rw [HRR.out, if_neg (fun x => hz x.2)]
              subst hR0 hnr
              have hzl : (((out.length : Nat) : Int) == 0) = false := by
                cases out with
                | nil => exact absurd rfl hz
                | cons x r => simp; omega
              clear hz
              go_wp2_with (first | (go_at_call 36; refine (HFILL.out _ _ SP).mono ?_; unfold Outs; rintro e w8 ⟨oa, oc, rfl, S11⟩))
              go_ret2
              exact ⟨ra9, rc9, _, _, rfl, Sat.lower HMD [brs ra9 1 rc9 [qr], _, _] ((S11).sel [2])⟩
          · have hqe : (n == s1.came + 1) = false := by simpa using hq1
            have et : t = { s1 with vain := s1.vain + 1 } := by rw [← HT.out]; unfold gotP; dsimp only; rw [HS1.out, if_neg (by omega), if_neg hq1]
            have hnr : nr = [] := by rw [← HNR.out, newRows_eq]; exact if_neg (fun x => hq1 (by rw [hca]; exact x.2))
            have HHA : Hid (t = { s1 with vain := s1.vain + 1 }) := et
            clear et hca hq1 HT HNR
            have U1 := S9.setCell (k := 7) (v := .int .i64 (s1.vain + 1)) 0 rfl
            have SP : Sat W0 _ (DL g { s1 with vain := s1.vain + 1 } :: _) := DL_open.2 ⟨ra, rc, (brs_in rfl (U1.sel [1, 1]) : Sat W0 _ (brs ra s1.rows.length rc s1.rows :: _)).swap⟩
            rw [← HHA.out] at SP
            by_cases hz : out = []
            · have hR0 : R = (nr, [packP f.id 0 f.came []], { f with sent := f.sent + 1 }) := by rw [HRR.out, if_pos ⟨hqp, hz⟩]
              subst hR0 hnr
              have hI := HFOK.out.id
              have HI := Lib.hid hI
              have hfc := HFOK.out.i64 (by have := HN.out; omega)
              have HCI := Lib.hid hfc
              have hfs : 0 ≤ f.sent ∧ f.sent ≤ 1000000000000000 := ⟨HFOK.out.s0, by have := HFOK.out.sN; have := HN.out; omega⟩
              have HFS := Lib.hid hfs
              clear hI hfc hfs
              subst hz
              go_wp2_with (first
                | (go_at_call 36; refine (HFILL.out _ _ SP).mono ?_; unfold Outs; rintro e w8 ⟨oa, oc, rfl, S11⟩; obtain ⟨fa, fc, S12⟩ := DL_open.1 S11.swap)
                | (go_at_call 37; refine (r16packet_none (S12 : Sat W0 _ (DK g f.id _ f.first (f.under : Int) f.came f.waited f.sent f.vain :: _)) HI.out HCI.out HFS.out).mono ?_; unfold Packed; rintro e w9 ⟨ka, kc, rfl, S13⟩; have S14 := S13.alloc [.slice ka (packP f.id 0 f.came []).length kc] 29; obtain ⟨ho, -, hol, S15⟩ := brs_out (S14.sel [4]))
                | (at_builtin; refine wpList_append_sat rfl (.tmp 145) (.tmp 148) _ rfl 29 i0 _ 1 24 Try.underlying25 hi hz0 hz1 hz2 rfl (by decide) S15 rfl rfl (Rd.lit (S14.block 0 rfl).1) (by rfl) (by simp [Value.oneCell']) (by unfold maxLen; simp) (by simp) ?_; intro ao16 cp16 w16 S16))
              go_ret2
              have T1 := brs_push (rs := []) rfl (S16.sel [0, 2, 0])
              have T2 := ((T1.sel [1]).tail.sel [1, 1])
              have T3 : Sat W0 _ (DL g { f with sent := f.sent + 1 } :: brs ao16 (0 + 1) cp16 ([] ++ [packP f.id 0 f.came []]) :: _) := DL_open.2 ⟨fa, fc, T2⟩
              exact ⟨none, 0, _, _, rfl, brs_none (Sat.lower HMD [_, _] (T3.swap))⟩
            · have hR0 : R = (nr, out, f) := by rw [HRR.out, if_neg (fun x => hz x.2)]
              subst hR0 hnr
              have hzl : (((out.length : Nat) : Int) == 0) = false := by
                cases out with
                | nil => exact absurd rfl hz
                | cons x r => simp; omega
              clear hz
              go_wp2_with (first | (go_at_call 36; refine (HFILL.out _ _ SP).mono ?_; unfold Outs; rintro e w8 ⟨oa, oc, rfl, S11⟩))
              go_ret2
              exact ⟨none, 0, _, _, rfl, brs_none (Sat.lower HMD [_, _] (S11))⟩
  · have hd0 : decide (0 < n) = false := decide_eq_false h0
    obtain ⟨s4, hs4⟩ : ∃ s4, s3 = s4 := ⟨_, rfl⟩
    obtain ⟨e4, he4⟩ : ∃ e4, e3 = e4 := ⟨_, rfl⟩
    rw [hs4, he4] at E3 e3'
    have e4' : lq4 x = ([], s4, e4) := by unfold lq4; rw [e2', e3', if_neg h0]
    have hq : lparts x = ⟨id, n, ack, [], endsF s4 e4⟩ := by unfold lparts; rw [e1', e2', e3', e4']
    have hfe : endsF s4 e4 = endOf s4 e4 := rfl
    rw [hq] at hP2 hrf
    dsimp only at hP1 hP2 hrf
    clear e1' e2' e3' e4' hq
    go_enter Try.func18, Try.ntmps18
    go_upto_region 7 with (first
    | (go_at_call 32; refine HOP.out.mono ?_; unfold Opened; rintro e w2 ⟨ao, cap, rfl, S2⟩; dsimp only at S2; have H3 : Rest W0 (sbs ao x.length cap x :: DL g s :: L) ao x.length cap x := ⟨fun w' h => h.own_rd, rfl, (sbs_rd S2).2.2.1, S2.own_len.2.2.1, HXB.out⟩; have HH3 := Lib.hid H3; clear H3; have S3 := S2.alloc [.slice ao x.length cap, .int .i64 0] 82)
    | (go_at_call 33; refine (r1Num_any (fun _ h => h) HH5.out HZ2.out S5).mono ?_; unfold Given; rw [E3.out]; dsimp only; rintro e w6 ⟨a6, n6, c6, H6, rfl, S6⟩; have HH6 := Lib.hid H6; clear H6)
    | (go_at_call 33; refine (r1Num_any (fun _ h => h) HH4.out HZ1.out S4).mono ?_; unfold Given; rw [E2.out]; dsimp only; rintro e w5 ⟨a5, n5, c5, H5, rfl, S5⟩; have HH5 := Lib.hid H5; clear H5)
    | (go_at_call 33; refine (r1Num_any (fun _ h => h) HH3.out (fun h => absurd rfl h) S3).mono ?_; unfold Given; rw [E1.out]; dsimp only; rintro e w4 ⟨a4, n4, c4, H4, rfl, S4⟩; have HH4 := Lib.hid H4; clear H4))
    have SR := S6
    clear S S2 S3 S4 S5
    obtain ⟨ra1, rc1, S8⟩ := DL_open.1 (S6.sel [2])
    clear S6
    have hwv : IntKind.i64.wrap (s.vain + 1) = s.vain + 1 := by have := HN.out; have := HOK.out.v0; have := HOK.out.vN; rw [IntKind.wrap_i64]; omega
    have c0 := S8.cell 0 rfl 0
    have c7' := S8.cell 0 rfl 7
    have f7' := S8.frozen 0 rfl 7
    simp only [List.getElem?_cons_zero, List.getElem?_cons_succ] at c0 c7'
    by_cases q1 : er = 0
    case neg =>
      have hz : (er != 0) = true := by simpa using q1
      have hR0 : R = _ := hP1 (hrf.2 (.inl (fun x => by exact absurd x.1 q1)))
      clear hP1 hP2 hrf
      subst hR0
      have S9 := S8.setCell (k := 7) (v := .int .i64 (s.vain + 1)) 0 rfl
      go_wp2_with (first
        | (go_at_call 35; refine (r1End_any HH6.out SR).mono ?_; rintro e wE ⟨rfl, rfl⟩))
      go_ret2
      exact ⟨none, 0, none, 0, rfl, brs_none (brs_none (DL_open.2 ⟨ra1, rc1, ((S9.sel [2, 2]).tail.tail)⟩))⟩
    have hz : (er != 0) = false := by simpa using q1
    by_cases q2 : endOf s4 e4 = 0
    case neg =>
      have hz2' : (endOf s4 e4 != 0) = true := by simpa using q2
      have hR0 : R = _ := hP1 (hrf.2 (.inl (fun x => by exact q2 (hfe.symm.trans x.2.1))))
      clear hP1 hP2 hrf
      subst hR0
      have S9 := S8.setCell (k := 7) (v := .int .i64 (s.vain + 1)) 0 rfl
      go_wp2_with (first
        | (go_at_call 35; refine (r1End_any HH6.out SR).mono ?_; rintro e wE ⟨rfl, rfl⟩))
      go_ret2
      exact ⟨none, 0, none, 0, rfl, brs_none (brs_none (DL_open.2 ⟨ra1, rc1, ((S9.sel [2, 2]).tail.tail)⟩))⟩
    have hz2' : (endOf s4 e4 != 0) = false := by simpa using q2
    by_cases q3 : 0 ≤ n
    case neg =>
      have hz3' : decide (n < 0) = true := decide_eq_true (by omega)
      have hR0 : R = _ := hP1 (hrf.2 (.inl (fun x => by have := x.2.2.1; omega)))
      clear hP1 hP2 hrf
      subst hR0
      have S9 := S8.setCell (k := 7) (v := .int .i64 (s.vain + 1)) 0 rfl
      go_wp2_with (first
        | (go_at_call 35; refine (r1End_any HH6.out SR).mono ?_; rintro e wE ⟨rfl, rfl⟩))
      go_ret2
      exact ⟨none, 0, none, 0, rfl, brs_none (brs_none (DL_open.2 ⟨ra1, rc1, ((S9.sel [2, 2]).tail.tail)⟩))⟩
    have hz3' : decide (n < 0) = false := decide_eq_false (by omega)
    by_cases q4 : 0 ≤ ack
    case neg =>
      have hz4' : decide (ack < 0) = true := decide_eq_true (by omega)
      have hR0 : R = _ := hP1 (hrf.2 (.inl (fun x => by have := x.2.2.2.1; omega)))
      clear hP1 hP2 hrf
      subst hR0
      have S9 := S8.setCell (k := 7) (v := .int .i64 (s.vain + 1)) 0 rfl
      go_wp2_with (first
        | (go_at_call 35; refine (r1End_any HH6.out SR).mono ?_; rintro e wE ⟨rfl, rfl⟩))
      go_ret2
      exact ⟨none, 0, none, 0, rfl, brs_none (brs_none (DL_open.2 ⟨ra1, rc1, ((S9.sel [2, 2]).tail.tail)⟩))⟩
    have hz4' : decide (ack < 0) = false := decide_eq_false (by omega)
    by_cases q6 : id = s.id
    case neg =>
      have hz6' : (id != s.id) = true := by simpa using q6
      have hR0 : R = _ := hP1 (hrf.2 (.inr q6))
      clear hP1 hP2 hrf
      subst hR0
      have S9 := S8.setCell (k := 7) (v := .int .i64 (s.vain + 1)) 0 rfl
      go_wp2_with (first
        | (go_at_call 35; refine (r1End_any HH6.out SR).mono ?_; rintro e wE ⟨rfl, rfl⟩))
      go_ret2
      exact ⟨none, 0, none, 0, rfl, brs_none (brs_none (DL_open.2 ⟨ra1, rc1, ((S9.sel [2, 2]).tail.tail)⟩))⟩
    have hz6' : (id != s.id) = false := by simpa using q6
    have hP := hP2 (fun x => (hrf.1 x).elim (fun x => x ⟨q1, hfe.trans q2, q3, q4, (by simp)⟩) (fun x => x q6))
    clear hP1 hP2 hrf
    obtain ⟨t, ht⟩ : ∃ t, gotP s ⟨id, n, ack, [], endsF s4 e4⟩ = t := ⟨_, rfl⟩
    obtain ⟨nr, hnr⟩ : ∃ nr, newRows s ⟨id, n, ack, [], endsF s4 e4⟩ = nr := ⟨_, rfl⟩
    obtain ⟨out, f, hf⟩ : ∃ out f, fillP t = (out, f) := ⟨_, _, rfl⟩
    rw [ht, hnr, hf] at hP
    have hRR : R = if 0 < n ∧ out = [] then (nr, [packP f.id 0 f.came []], { f with sent := f.sent + 1 }) else (nr, out, f) := hP
    have HRR := Lib.hid hRR
    have htok := HOK.out.got ⟨id, n, ack, [], endsF s4 e4⟩
    rw [ht] at htok
    have hfok := htok.fill
    rw [hf] at hfok
    have HFOK : Hid (f.Ok (N + 17 + 16)) := hfok
    have HFILL := Lib.hid (fun (w' : World) (L : List Asn) (h : Sat W0 w' (DL g t :: L)) => show Calls Try.prog 36 #[.pointer (some ⟨g, 0, none⟩)] w' (Outs W0 (DL g f :: L) out) by
      have := goes_any h htok (by have := HN.out; omega); rw [hf] at this; exact this)
    have HT := Lib.hid ht
    have HNR := Lib.hid hnr
    clear hP hRR ht hnr hf htok hfok
    obtain rfl : n = 0 := by omega
    go_wp2_with (first
      | (go_at_call 35; refine (r1End_any HH6.out SR).mono ?_; rintro e wE ⟨rfl, rfl⟩))
    obtain ⟨hs, -, hl, SB⟩ := brs_out S8.swap
    have SL0 := SB.sel [2]
    clear SB S8 SR c0 c7' f7'
    obtain ⟨M, hM⟩ : ∃ M, (R1 w2.heap.size a6 n6 c6 e4 :: sbs ao x.length cap x :: L) = M := ⟨_, rfl⟩
    have SL : Sat W0 w6 (DKs g s ra1 rc1 :: slc 29 1 ra1 s.rows.length rc1 (hs.map hv) :: rowsB hs s.rows :: M) := by rw [← hM]; exact SL0
    have HMD : ∀ h, (Sep.all M).holds h → (Sep.all L).holds h := by rw [← hM]; exact all_drop (all_drop (fun _ h => h))
    clear hM SL0 HH3 HH4 HH5 HH6 HOP E1 E2 E3
    go_loopw [] (fun wr => ∃ (s1 : LS) (ra : Option Addr) (rc : Nat) (hs : List Hd), Hid (s1.Ok (N + 16 - s1.under)) ∧ Hid (ackP ack s1.under s1 = ackP ack s.under s) ∧ Sat W0 wr (DKs g s1 ra rc :: slc 29 1 ra s1.rows.length rc (hs.map hv) :: rowsB hs s1.rows :: M)) (fun wr => cellN wr g 2)
    case atStart =>
      exact ⟨s, ra1, rc1, hs, HOK.out.mono (by have := HOK.out.u16; omega), rfl, SL⟩
    case round =>
      clear SL
      obtain ⟨s1, ra, rc, hs, HO1, HA, S9⟩ := hrel
      have hmeas : cellN wr g 2 = s1.under := by
        have := S9.cell 0 rfl 2
        unfold cellN
        rw [this]
        simp
      have hul := HO1.out.ul
      have hu16 := HO1.out.u16
      by_cases hco : 0 < s1.under ∧ s1.first ≤ ack
      · have hw1 : IntKind.i64.wrap (s1.first + 1) = s1.first + 1 := by have := HN.out; have := HO1.out.f1; have := HO1.out.fN; rw [IntKind.wrap_i64]; omega
        obtain ⟨si, rows, first, under, came, waited, sent, vain⟩ := s1
        dsimp only at *
        have hl1 := rowsB_len (S9.sel [2])
        cases rows with
        | nil => simp at hul; omega
        | cons xx xs =>
        cases hs with
        | nil => simp at hl1
        | cons hd ht =>
        obtain ⟨rb, ro, rfl, -⟩ := (S9.sel [1]).own_rd 0 (hv hd) rfl
        have hlen := (S9.sel [1]).own_len
        obtain ⟨u, rfl⟩ : ∃ u, under = u + 1 := ⟨under - 1, by omega⟩
        have S11 : Sat W0 wr (blk g [.int .i64 si, .slice (some ⟨rb, ro, none⟩) (xs.length + 1) rc, .int .i64 ((u : Int) + 1), .int .i64 first, .int .i64 came, .int .i64 waited, .int .i64 sent, .int .i64 vain] 41 :: slc 29 1 (some ⟨rb, ro, none⟩) (xs.length + 1) rc (hv hd :: ht.map hv) :: rowsB ht xs :: M) := (rowsB_tail (S9.sel [2])).sel [1, 1]
        have n1 := S11.cell 0 rfl 1
        have n2 := S11.cell 0 rfl 2
        have n3 := S11.cell 0 rfl 3
        have m1 := S11.frozen 0 rfl 1
        have m2 := S11.frozen 0 rfl 2
        have m3 := S11.frozen 0 rfl 3
        simp only [List.getElem?_cons_zero, List.getElem?_cons_succ] at n1 n2 n3
        have hw3 : IntKind.i64.wrap ((u : Int) + 1 - 1) = (u : Int) := by rw [IntKind.wrap_i64]; omega
        have hw4 : IntKind.i64.wrap (u : Int) = (u : Int) := by rw [IntKind.wrap_i64]; omega
        have hd1 : decide ((0 : Int) < (u : Int) + 1) = true := decide_eq_true (by omega)
        have hd2 : decide (first ≤ ack) = true := decide_eq_true hco.2
        have hpop : LS.Ok (N + 16 - (u : Int)) ⟨si, xs, first + 1, u, came, waited, sent, vain⟩ := (HO1.out.pop rfl).mono (by simp only [Int.natCast_add]; omega)
        have hack : ackP ack u ⟨si, xs, first + 1, u, came, waited, sent, vain⟩ = ackP ack s.under s := by
          rw [← HA.out]
          exact (show ackP ack (u + 1) ⟨si, xx :: xs, first, u + 1, came, waited, sent, vain⟩ = ackP ack u ⟨si, xs, first + 1, u, came, waited, sent, vain⟩ from if_pos hco.2).symm
        have HPOP := Lib.hid hpop
        have HACK := Lib.hid hack
        clear hpop hack HO1 HA S9
        by_cases hrc : rc = 1
        · subst hrc
          have S12 := ((S11.setCell (k := 1) (v := .slice (some ⟨rb, ro, none⟩) xs.length 0) 0 rfl).setCell (k := 3) (v := .int .i64 (first + 1)) 0 rfl).setCell (k := 2) (v := .int .i64 (u : Int)) 0 rfl
          go_wp2_with fail
          have hcell := S12.cell 0 rfl 2
          obtain ⟨e0, ex, S13⟩ := own_last (S12.sel [1])
          refine ⟨⟨⟨si, xs, first + 1, u, came, waited, sent, vain⟩, some ⟨rb, ro, none⟩, 0, ht, HPOP, HACK, ?_⟩, ?_⟩
          · have S14 : Sat W0 (((wr.setCell ⟨g, 1, none⟩ (.slice (some ⟨rb, ro, none⟩) xs.length 0)).setCell ⟨g, 3, none⟩ (.int .i64 (first + 1))).setCell ⟨g, 2, none⟩ (.int .i64 (u : Int))) (blk g [.int .i64 si, .slice (some ⟨rb, ro, none⟩) xs.length 0, .int .i64 (u : Int), .int .i64 (first + 1), .int .i64 came, .int .i64 waited, .int .i64 sent, .int .i64 vain] 41 :: slc 29 1 (some ⟨rb, ro, none⟩) xs.length 0 (ht.map hv) :: rowsB ht xs :: M) := by
              have e9 : slc 29 1 (some ⟨rb, ro, none⟩) xs.length 0 (ht.map hv) = slc 29 1 (some ⟨rb, ro, none⟩) 0 0 [] := by rw [e0, ex]
              rw [e9]
              exact S13.swap
            exact S14
          · rw [hmeas]
            unfold cellN
            rw [hcell]
            simp
        · have hrc1 : 1 < rc := by omega
          have S12 := ((S11.setCell (k := 1) (v := .slice (some ⟨rb, ro + 1, none⟩) xs.length (rc - 1)) 0 rfl).setCell (k := 3) (v := .int .i64 (first + 1)) 0 rfl).setCell (k := 2) (v := .int .i64 (u : Int)) 0 rfl
          go_wp2_with fail
          have hcell := S12.cell 0 rfl 2
          have S13 := own_next (S12.sel [1])
          refine ⟨⟨⟨si, xs, first + 1, u, came, waited, sent, vain⟩, some ⟨rb, ro + 1, none⟩, rc - 1, ht, HPOP, HACK, ?_⟩, ?_⟩
          · exact S13.swap
          · rw [hmeas]
            unfold cellN
            rw [hcell]
            simp
      · have HS1 : Hid (ackP ack s.under s = s1) := by
          show _ = _
          rw [← HA.out]
          obtain ⟨si, rows, first, under, came, waited, sent, vain⟩ := s1
          cases under with
          | zero => rfl
          | succ u => exact if_neg (fun x => hco ⟨by simp, x⟩)
        clear HA
        have hw8 : IntKind.i64.wrap (s1.came + 1) = s1.came + 1 := by have := HN.out; have := HO1.out.c0; have := HO1.out.cN; rw [IntKind.wrap_i64]; omega
        have hw9 : IntKind.i64.wrap (s1.vain + 1) = s1.vain + 1 := by have := HN.out; have := HO1.out.v0; have := HO1.out.vN; rw [IntKind.wrap_i64]; omega
        have k2 := S9.cell 0 rfl 2
        have k3 := S9.cell 0 rfl 3
        have k4 := S9.cell 0 rfl 4
        have k7 := S9.cell 0 rfl 7
        have q4 := S9.frozen 0 rfl 4
        have q7 := S9.frozen 0 rfl 7
        simp only [List.getElem?_cons_zero, List.getElem?_cons_succ] at k2 k3 k4 k7
        by_cases h0 : s1.under = 0
        · have hd1 : decide ((0 : Int) < ((s1.under : Nat) : Int)) = false := decide_eq_false (by omega)
          rw [h0] at k2
          clear hd1 hmeas hul hu16 hco
          have et : t = s1 := by rw [← HT.out]; unfold gotP; dsimp only; rw [HS1.out, if_pos rfl]
          have hnr : nr = [] := by rw [← HNR.out, newRows_eq]; exact if_neg (fun x => x.1 rfl)
          clear HT HNR
          subst et
          have SP : Sat W0 wr (DL g t :: M) := DL_open.2 ⟨ra, rc, (brs_in rfl (S9.sel [1, 1]) : Sat W0 wr (brs ra t.rows.length rc t.rows :: _)).swap⟩
          have hR0 : R = (nr, out, f) := by rw [HRR.out, if_neg (fun x => absurd x.1 (by decide))]
          subst hR0 hnr
          go_wp2_with (first | (go_at_call 36; refine (HFILL.out _ _ SP).mono ?_; unfold Outs; rintro e w8 ⟨oa, oc, rfl, S11⟩))
          go_ret2
          exact ⟨none, 0, _, _, rfl, brs_none (Sat.lower HMD [_, _] (S11))⟩
        · have hd1 : decide ((0 : Int) < ((s1.under : Nat) : Int)) = true := decide_eq_true (by omega)
          have hd2 : decide (s1.first ≤ ack) = false := decide_eq_false (fun x => hco ⟨by omega, x⟩)
          have hd3 : 0 < s1.under := by omega
          clear hmeas hul hu16 hco h0
          have et : t = s1 := by rw [← HT.out]; unfold gotP; dsimp only; rw [HS1.out, if_pos rfl]
          have hnr : nr = [] := by rw [← HNR.out, newRows_eq]; exact if_neg (fun x => x.1 rfl)
          clear HT HNR
          subst et
          have SP : Sat W0 wr (DL g t :: M) := DL_open.2 ⟨ra, rc, (brs_in rfl (S9.sel [1, 1]) : Sat W0 wr (brs ra t.rows.length rc t.rows :: _)).swap⟩
          have hR0 : R = (nr, out, f) := by rw [HRR.out, if_neg (fun x => absurd x.1 (by decide))]
          subst hR0 hnr
          go_wp2_with (first | (go_at_call 36; refine (HFILL.out _ _ SP).mono ?_; unfold Outs; rintro e w8 ⟨oa, oc, rfl, S11⟩))
          go_ret2
          exact ⟨none, 0, _, _, rfl, brs_none (Sat.lower HMD [_, _] (S11))⟩
end Go.Proofs.Ytdgalljalcediaa
