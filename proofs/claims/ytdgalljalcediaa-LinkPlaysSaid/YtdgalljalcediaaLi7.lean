/-
  link: Hear.
-/
import Derived.Test.YtdgalljalcediaaLi6
import Derived.Test.YtdgalljalcediaaLiQ
namespace Go.Proofs.Ytdgalljalcediaa
open Go.RowKit Go.Sep Go.Oct
set_option linter.unusedSimpArgs false

def HeardP (W0 : World) (L : List Asn) (g : Nat) (r : List (List Int) × List (List Int) × LS) (e : Ending) (w' : World) : Prop :=
  ∃ ra rc oa oc, e = .returned (.tuple #[.slice ra r.1.length rc, .slice oa r.2.1.length oc]) ∧ Sat W0 w' (brs ra r.1.length rc r.1 :: brs oa r.2.1.length oc r.2.1 :: PL g r.2.2 :: L)
theorem hear_none (w : World) (v : Value) : Calls Try.prog 15 #[.pointer none, v] w fun e w' => e = .returned (.tuple #[.slice none 0 0, .slice none 0 0]) ∧ w = w' := by
  go_enter Try.func15, Try.ntmps15
  go_wp2_with fail
  go_ret2
  exact ⟨rfl, rfl⟩
theorem own_next {W0 w : World} {L : List Asn} {e : TypeId} {b off n cap : Nat} {x : Value} {xs : List Value} (S : Sat W0 w (slc e 1 (some ⟨b, off, none⟩) (n + 1) cap (x :: xs) :: L)) : Sat W0 w (slc e 1 (some ⟨b, off + 1, none⟩) n (cap - 1) xs :: L) := by
  obtain ⟨b', pre, post, h0, h1, h2, h3, h4, S1⟩ := Sat.own_some.1 S
  cases h0
  refine Sat.own_some.2 ⟨b, pre ++ [x], post, by simp, by simp at h1 ⊢; omega, by omega, by omega, by omega, ?_⟩
  simpa using S1
theorem own_last {W0 w : World} {L : List Asn} {e : TypeId} {b off n : Nat} {x : Value} {xs : List Value} (S : Sat W0 w (slc e 1 (some ⟨b, off, none⟩) (n + 1) 1 (x :: xs) :: L)) : n = 0 ∧ xs = [] ∧ Sat W0 w (slc e 1 (some ⟨b, off, none⟩) 0 0 [] :: L) := by
  obtain ⟨b', pre, post, h0, h1, h2, h3, h4, S1⟩ := Sat.own_some.1 S
  cases h0
  obtain rfl : n = 0 := by omega
  obtain rfl : xs = [] := List.eq_nil_of_length_eq_zero (by simpa using h1)
  refine ⟨rfl, rfl, Sat.own_some.2 ⟨b, pre, [x] ++ post, rfl, by simp, by omega, by unfold maxLen; omega, by simp, ?_⟩⟩
  simpa using S1
def cellN (w : World) (g k : Nat) : Nat := match w.cell? ⟨g, k, none⟩ with
  | some (.int _ n) => n.toNat
  | _ => 0

set_option maxRecDepth 100000 in
set_option maxHeartbeats 6400000 in
theorem hear_any {W0 w : World} {L : List Asn} {g : Nat} {s : LS} {N : Int} (S : Sat W0 w (PL g s :: L)) (ok : s.Ok N) (hN : N ≤ 900000000000) {a : Option Addr} {m c : Nat} {b : List Int} (hR : ∀ w', Sat W0 w' L → Rd w' a (bv b)) (hm : b.length = m) (hB : Bytes b) (hmc : m ≤ c) (hb : m ≤ 1000000000) :
    Calls Try.prog 15 #[.pointer (some ⟨g, 0, none⟩), .slice a m c] w (HeardP W0 L g (hearP s b)) := by
  have HRD := Lib.hid (lread_any S (fun w' h => hR w' h.tail) hm hB hmc hb)
  have hP1 : refused s b → hearP s b = _ := hearP_bad
  have hP2 : ¬ refused s b → hearP s b = _ := hearP_ok
  have hrf : refused s b ↔ (¬ lokP b ∨ (lparts (openF b).1).id ≠ s.id) := Iff.rfl
  have HOK := Lib.hid ok
  have HN := Lib.hid hN
  clear hR hm hB hmc hb
  obtain ⟨ra, rc, S0⟩ := PL_open.1 S
  by_cases hlk : lokP b
  case neg =>
    rw [hP1 (hrf.2 (.inl hlk))]
    rw [decide_eq_false hlk] at HRD
    clear hP1 hP2 hrf hlk
    generalize lparts (openF b).1 = q at HRD
    obtain ⟨qi, qn, qa, qr, qf⟩ := q
    have hwv : IntKind.i64.wrap (s.vain + 1) = s.vain + 1 := by have := HN.out; have := HOK.out.v0; have := HOK.out.vN; rw [IntKind.wrap_i64]; omega
    clear ok hN
    go_enter Try.func15, Try.ntmps15
    go_wp2_with (first
      | (go_at_call 30; refine HRD.out.mono ?_; unfold LRead; rintro e w2 ⟨pa, pc, rfl, S2⟩; dsimp only at S2; have S3 := S2.alloc [.int .i64 0, .int .i64 0, .int .i64 0, .slice none 0 0] 74)
      | (refine wpList_store_sat (off := 0) (n := 4) rfl 74 _ _ rfl S3 rfl rfl rfl (by simp) Try.sizeP (by simp [Value.oneCell']) ?_; intro w4 S4))
    have S5 := S4.drew
    generalize w2.heap.size = pp at S5 ⊢
    obtain ⟨ra1, rc1, S6⟩ := PL_open.1 (S5.sel [2])
    refine wp_region_drawn (N := 11) (LN := #[false, false, false, false, false, false, false, false, false, false, false]) (by kernel_rfl) (by kernel_rfl) (by kernel_rfl) ?_
    generalize w4.drew = w5 at S6 ⊢
    refine wpAny_loc (i := 0) (v := ?_) (LN := #[true, false, false, false, false, false, false, false, false, false, false]) rfl (by kernel_rfl) (by kernel_rfl) (by kernel_rfl) (fun _ _ _ h => h) (by kernel_rfl) (by rfl) ?_ ?_
    rotate_left
    · intro w; first | (go_simp; done) | (go_simp; with_reducible rfl)
    try simp only [Act.put, List.getElem_toArray, List.getElem_cons_zero, List.getElem_cons_succ, List.setIfInBounds_toArray, List.set_cons_zero, List.set_cons_succ]
    refine wpAny_loc (i := 1) (v := ?_) (LN := #[true, true, false, false, false, false, false, false, false, false, false]) rfl (by kernel_rfl) (by kernel_rfl) (by kernel_rfl) (fun _ _ _ h => h) (by kernel_rfl) (by rfl) ?_ ?_
    rotate_left
    · intro w; first | (go_simp; done) | (go_simp; with_reducible rfl)
    try simp only [Act.put, List.getElem_toArray, List.getElem_cons_zero, List.getElem_cons_succ, List.setIfInBounds_toArray, List.set_cons_zero, List.set_cons_succ]
    refine wpAny_loc (i := 2) (v := ?_) (LN := #[true, true, true, false, false, false, false, false, false, false, false]) rfl (by kernel_rfl) (by kernel_rfl) (by kernel_rfl) (fun _ _ _ h => h) (by kernel_rfl) (by rfl) ?_ ?_
    rotate_left
    · intro w; first | (go_simp; done) | (go_simp; with_reducible rfl)
    try simp only [Act.put, List.getElem_toArray, List.getElem_cons_zero, List.getElem_cons_succ, List.setIfInBounds_toArray, List.set_cons_zero, List.set_cons_succ]
    refine wpAny_off (i := 3) (LN := #[true, true, true, true, false, false, false, false, false, false, false]) rfl (by kernel_rfl) (by kernel_rfl) (by kernel_rfl) (fun _ _ _ h => h) (by kernel_rfl) (by rfl) ?_
    try simp only [Act.put, List.getElem_toArray, List.getElem_cons_zero, List.getElem_cons_succ, List.setIfInBounds_toArray, List.set_cons_zero, List.set_cons_succ]
    refine wpAny_off (i := 4) (LN := #[true, true, true, true, true, false, false, false, false, false, false]) rfl (by kernel_rfl) (by kernel_rfl) (by kernel_rfl) (fun _ _ _ h => h) (by kernel_rfl) (by rfl) ?_
    try simp only [Act.put, List.getElem_toArray, List.getElem_cons_zero, List.getElem_cons_succ, List.setIfInBounds_toArray, List.set_cons_zero, List.set_cons_succ]
    refine wpAny_off (i := 5) (LN := #[true, true, true, true, true, true, false, false, false, false, false]) rfl (by kernel_rfl) (by kernel_rfl) (by kernel_rfl) (fun _ _ _ h => h) (by kernel_rfl) (by rfl) ?_
    try simp only [Act.put, List.getElem_toArray, List.getElem_cons_zero, List.getElem_cons_succ, List.setIfInBounds_toArray, List.set_cons_zero, List.set_cons_succ]
    refine wpAny_off (i := 6) (LN := #[true, true, true, true, true, true, true, false, false, false, false]) rfl (by kernel_rfl) (by kernel_rfl) (by kernel_rfl) (fun _ _ _ h => h) (by kernel_rfl) (by rfl) ?_
    try simp only [Act.put, List.getElem_toArray, List.getElem_cons_zero, List.getElem_cons_succ, List.setIfInBounds_toArray, List.set_cons_zero, List.set_cons_succ]
    refine wpAny_off (i := 7) (LN := #[true, true, true, true, true, true, true, true, false, false, false]) rfl (by kernel_rfl) (by kernel_rfl) (by kernel_rfl) (fun _ _ _ h => h) (by kernel_rfl) (by rfl) ?_
    try simp only [Act.put, List.getElem_toArray, List.getElem_cons_zero, List.getElem_cons_succ, List.setIfInBounds_toArray, List.set_cons_zero, List.set_cons_succ]
    refine wpAny_off (i := 8) (LN := #[true, true, true, true, true, true, true, true, true, false, false]) rfl (by kernel_rfl) (by kernel_rfl) (by kernel_rfl) (fun _ _ _ h => h) (by kernel_rfl) (by rfl) ?_
    try simp only [Act.put, List.getElem_toArray, List.getElem_cons_zero, List.getElem_cons_succ, List.setIfInBounds_toArray, List.set_cons_zero, List.set_cons_succ]
    refine wpAny_off (i := 9) (LN := #[true, true, true, true, true, true, true, true, true, true, false]) rfl (by kernel_rfl) (by kernel_rfl) (by kernel_rfl) (fun _ _ _ h => h) (by kernel_rfl) (by rfl) ?_
    try simp only [Act.put, List.getElem_toArray, List.getElem_cons_zero, List.getElem_cons_succ, List.setIfInBounds_toArray, List.set_cons_zero, List.set_cons_succ]
    refine wpAny_loc (i := 10) (v := ?_) (LN := #[true, true, true, true, true, true, true, true, true, true, true]) rfl (by kernel_rfl) (by kernel_rfl) (by kernel_rfl) (fun _ _ _ h => h) (by kernel_rfl) (by rfl) ?_ ?_
    rotate_left
    · intro w; first | (go_simp; done) | (go_simp; with_reducible rfl)
    try simp only [Act.put, List.getElem_toArray, List.getElem_cons_zero, List.getElem_cons_succ, List.setIfInBounds_toArray, List.set_cons_zero, List.set_cons_succ]
    refine ⟨by kernel_rfl, ?_⟩
    try simp only [Act.put, List.getElem_toArray, List.getElem_cons_zero, List.getElem_cons_succ, List.setIfInBounds_toArray, List.set_cons_zero, List.set_cons_succ]
    have n7 := S6.cell 0 rfl 7
    have m7 := S6.frozen 0 rfl 7
    simp only [lkc, List.getElem?_cons_zero, List.getElem?_cons_succ] at n7
    have S7 := S6.setCell (k := 7) (v := .int .i64 (s.vain + 1)) 0 rfl
    go_wp2_with fail
    go_ret2
    exact ⟨none, 0, none, 0, rfl, brs_none (brs_none (PL_open.2 ⟨ra1, rc1, ((S7.sel [2]).tail.sel [2]).tail⟩))⟩
  rw [decide_eq_true hlk] at HRD
  by_cases hid : (lparts (openF b).1).id = s.id
  case neg =>
    rw [hP1 (hrf.2 (.inr hid))]
    clear hP1 hP2 hrf hlk
    generalize lparts (openF b).1 = q at HRD hid
    obtain ⟨qi, qn, qa, qr, qf⟩ := q
    have hwv : IntKind.i64.wrap (s.vain + 1) = s.vain + 1 := by have := HN.out; have := HOK.out.v0; have := HOK.out.vN; rw [IntKind.wrap_i64]; omega
    have hne : (qi != s.id) = true := by simpa using hid
    clear ok hN hid
    go_enter Try.func15, Try.ntmps15
    go_wp2_with (first
      | (go_at_call 30; refine HRD.out.mono ?_; unfold LRead; rintro e w2 ⟨pa, pc, rfl, S2⟩; dsimp only at S2; have S3 := S2.alloc [.int .i64 0, .int .i64 0, .int .i64 0, .slice none 0 0] 74)
      | (refine wpList_store_sat (off := 0) (n := 4) rfl 74 _ _ rfl S3 rfl rfl rfl (by simp) Try.sizeP (by simp [Value.oneCell']) ?_; intro w4 S4))
    have S5 := S4.drew
    generalize w2.heap.size = pp at S5 ⊢
    obtain ⟨ra1, rc1, S6⟩ := PL_open.1 (S5.sel [2])
    refine wp_region_drawn (N := 11) (LN := #[false, false, false, false, false, false, false, false, false, false, false]) (by kernel_rfl) (by kernel_rfl) (by kernel_rfl) ?_
    generalize w4.drew = w5 at S6 ⊢
    refine wpAny_held (fun w' => w'.cell? ⟨pp, 0, none⟩ = some (.int .i64 qi) ∧ w'.cell? ⟨g, 0, none⟩ = some (.int .i64 s.id)) ⟨(S6.cell 2 rfl 0 : _), (S6.cell 0 rfl 0 : _)⟩ (fun hHeld => ?_)
    refine wpAnyH_tk (i := 0) (v := ?_) (LN := #[true, false, false, false, false, false, false, false, false, false, false]) rfl (by kernel_rfl) (by kernel_rfl) (by kernel_rfl) (fun _ _ _ h => h) (by kernel_rfl) (by rfl) (by assumption) ?_ ?_
    rotate_left
    · intro w hSw; (try dsimp only at hSw); first | (go_simp; done) | (go_simp; with_reducible rfl)
    try simp only [Act.put, List.getElem_toArray, List.getElem_cons_zero, List.getElem_cons_succ, List.setIfInBounds_toArray, List.set_cons_zero, List.set_cons_succ]
    refine wpAnyH_tk (i := 1) (v := ?_) (LN := #[true, true, false, false, false, false, false, false, false, false, false]) rfl (by kernel_rfl) (by kernel_rfl) (by kernel_rfl) (fun _ _ _ h => h) (by kernel_rfl) (by rfl) (by assumption) ?_ ?_
    rotate_left
    · intro w hSw; (try dsimp only at hSw); first | (go_simp; done) | (go_simp; with_reducible rfl)
    try simp only [Act.put, List.getElem_toArray, List.getElem_cons_zero, List.getElem_cons_succ, List.setIfInBounds_toArray, List.set_cons_zero, List.set_cons_succ]
    refine wpAnyH_tk (i := 2) (v := ?_) (LN := #[true, true, true, false, false, false, false, false, false, false, false]) rfl (by kernel_rfl) (by kernel_rfl) (by kernel_rfl) (fun _ _ _ h => h) (by kernel_rfl) (by rfl) (by assumption) ?_ ?_
    rotate_left
    · intro w hSw; (try dsimp only at hSw); first | (go_simp; done) | (go_simp; with_reducible rfl)
    try simp only [Act.put, List.getElem_toArray, List.getElem_cons_zero, List.getElem_cons_succ, List.setIfInBounds_toArray, List.set_cons_zero, List.set_cons_succ]
    refine wpAnyH_tk (i := 3) (v := ?_) (LN := #[true, true, true, true, false, false, false, false, false, false, false]) rfl (by kernel_rfl) (by kernel_rfl) (by kernel_rfl) (fun _ _ _ h => h) (by kernel_rfl) (by rfl) (by assumption) ?_ ?_
    rotate_left
    · intro w hSw; (try dsimp only at hSw); first | (go_simp; done) | (go_simp; with_reducible rfl)
    try simp only [Act.put, List.getElem_toArray, List.getElem_cons_zero, List.getElem_cons_succ, List.setIfInBounds_toArray, List.set_cons_zero, List.set_cons_succ]
    refine wpAnyH_tk (i := 4) (v := ?_) (LN := #[true, true, true, true, true, false, false, false, false, false, false]) rfl (by kernel_rfl) (by kernel_rfl) (by kernel_rfl) (fun _ _ _ h => h) (by kernel_rfl) (by rfl) (by assumption) ?_ ?_
    rotate_left
    · intro w hSw; (try dsimp only at hSw); first | (go_simp; done) | (go_simp; with_reducible rfl)
    try simp only [Act.put, List.getElem_toArray, List.getElem_cons_zero, List.getElem_cons_succ, List.setIfInBounds_toArray, List.set_cons_zero, List.set_cons_succ]
    refine wpAnyH_tk (i := 5) (v := ?_) (LN := #[true, true, true, true, true, true, false, false, false, false, false]) rfl (by kernel_rfl) (by kernel_rfl) (by kernel_rfl) (fun _ _ _ h => h) (by kernel_rfl) (by rfl) (by assumption) ?_ ?_
    rotate_left
    · intro w hSw; (try dsimp only at hSw); first | (go_simp; done) | (go_simp; with_reducible rfl)
    try simp only [Act.put, List.getElem_toArray, List.getElem_cons_zero, List.getElem_cons_succ, List.setIfInBounds_toArray, List.set_cons_zero, List.set_cons_succ]
    refine wpAnyH_tk (i := 6) (v := ?_) (LN := #[true, true, true, true, true, true, true, false, false, false, false]) rfl (by kernel_rfl) (by kernel_rfl) (by kernel_rfl) (fun _ _ _ h => h) (by kernel_rfl) (by rfl) (by assumption) ?_ ?_
    rotate_left
    · intro w hSw; (try dsimp only at hSw); first | (go_simp; done) | (go_simp; with_reducible rfl)
    try simp only [Act.put, List.getElem_toArray, List.getElem_cons_zero, List.getElem_cons_succ, List.setIfInBounds_toArray, List.set_cons_zero, List.set_cons_succ]
    refine wpAnyH_tk (i := 7) (v := ?_) (LN := #[true, true, true, true, true, true, true, true, false, false, false]) rfl (by kernel_rfl) (by kernel_rfl) (by kernel_rfl) (fun _ _ _ h => h) (by kernel_rfl) (by rfl) (by assumption) ?_ ?_
    rotate_left
    · intro w hSw; (try dsimp only at hSw); first | (go_simp; done) | (go_simp; with_reducible rfl)
    try simp only [Act.put, List.getElem_toArray, List.getElem_cons_zero, List.getElem_cons_succ, List.setIfInBounds_toArray, List.set_cons_zero, List.set_cons_succ]
    refine wpAnyH_tk (i := 8) (v := ?_) (LN := #[true, true, true, true, true, true, true, true, true, false, false]) rfl (by kernel_rfl) (by kernel_rfl) (by kernel_rfl) (fun _ _ _ h => h) (by kernel_rfl) (by rfl) (by assumption) ?_ ?_
    rotate_left
    · intro w hSw; (try dsimp only at hSw); first | (go_simp; done) | (go_simp; with_reducible rfl)
    try simp only [Act.put, List.getElem_toArray, List.getElem_cons_zero, List.getElem_cons_succ, List.setIfInBounds_toArray, List.set_cons_zero, List.set_cons_succ]
    refine wpAnyH_tk (i := 9) (v := ?_) (LN := #[true, true, true, true, true, true, true, true, true, true, false]) rfl (by kernel_rfl) (by kernel_rfl) (by kernel_rfl) (fun _ _ _ h => h) (by kernel_rfl) (by rfl) (by assumption) ?_ ?_
    rotate_left
    · intro w hSw; (try dsimp only at hSw); first | (go_simp; done) | (go_simp; with_reducible rfl)
    try simp only [Act.put, List.getElem_toArray, List.getElem_cons_zero, List.getElem_cons_succ, List.setIfInBounds_toArray, List.set_cons_zero, List.set_cons_succ]
    refine wpAnyH_tk (i := 10) (v := ?_) (LN := #[true, true, true, true, true, true, true, true, true, true, true]) rfl (by kernel_rfl) (by kernel_rfl) (by kernel_rfl) (fun _ _ _ h => h) (by kernel_rfl) (by rfl) (by assumption) ?_ ?_
    rotate_left
    · intro w hSw; (try dsimp only at hSw); first | (go_simp; done) | (go_simp; with_reducible rfl)
    try simp only [Act.put, List.getElem_toArray, List.getElem_cons_zero, List.getElem_cons_succ, List.setIfInBounds_toArray, List.set_cons_zero, List.set_cons_succ]
    refine ⟨by kernel_rfl, ?_⟩
    try simp only [Act.put, List.getElem_toArray, List.getElem_cons_zero, List.getElem_cons_succ, List.setIfInBounds_toArray, List.set_cons_zero, List.set_cons_succ]
    clear hHeld
    have n7 := S6.cell 0 rfl 7
    have m7 := S6.frozen 0 rfl 7
    simp only [lkc, List.getElem?_cons_zero, List.getElem?_cons_succ] at n7
    have S7 := S6.setCell (k := 7) (v := .int .i64 (s.vain + 1)) 0 rfl
    go_wp2_with fail
    go_ret2
    exact ⟨none, 0, none, 0, rfl, brs_none (brs_none (PL_open.2 ⟨ra1, rc1, ((S7.sel [2]).tail.sel [2]).tail⟩))⟩
  have hnr : ¬ refused s b := fun x => (hrf.1 x).elim (fun x => x hlk) (fun x => x hid)
  have HP := Lib.hid (hP2 hnr)
  clear hP1 hP2 hrf hnr hlk
  generalize lparts (openF b).1 = q at HRD hid HP
  generalize hearP s b = R at HP ⊢
  obtain ⟨qi, qn, qa, qr, qf⟩ := q
  have hid' : qi = s.id := hid
  subst hid'
  obtain ⟨t, ht⟩ : ∃ t, gotP s ⟨s.id, qn, qa, qr, qf⟩ = t := ⟨_, rfl⟩
  obtain ⟨nr, hnr⟩ : ∃ nr, newRows s ⟨s.id, qn, qa, qr, qf⟩ = nr := ⟨_, rfl⟩
  obtain ⟨out, f, hf⟩ : ∃ out f, fillP t = (out, f) := ⟨_, _, rfl⟩
  rw [ht, hnr, hf] at HP
  have hR : R = if 0 < qn ∧ out = [] then (nr, [packP f.id 0 f.came []], { f with sent := f.sent + 1 }) else (nr, out, f) := HP.out
  have HRR := Lib.hid hR
  have htok := ok.got ⟨s.id, qn, qa, qr, qf⟩
  rw [ht] at htok
  have hfok := htok.fill
  rw [hf] at hfok
  have HFOK : Hid (f.Ok (N + 17 + 16)) := hfok
  have HFILL := Lib.hid (fun (w' : World) (L : List Asn) (h : Sat W0 w' (PL g t :: L)) => show Calls Try.prog 29 #[.pointer (some ⟨g, 0, none⟩)] w' (Outs W0 (PL g f :: L) out) by
    have := fills_any h htok (by omega); rw [hf] at this; exact this)
  have HT := Lib.hid ht
  have HNR := Lib.hid hnr
  clear HP hR ht hnr hf htok hfok
  have hne : (s.id != s.id) = false := by simp
  clear hid ok hN
  go_enter Try.func15, Try.ntmps15
  go_wp2_with (first
    | (go_at_call 30; refine HRD.out.mono ?_; unfold LRead; rintro e w2 ⟨pa, pc, rfl, S2⟩; dsimp only at S2; have S3 := S2.alloc [.int .i64 0, .int .i64 0, .int .i64 0, .slice none 0 0] 74)
    | (refine wpList_store_sat (off := 0) (n := 4) rfl 74 _ _ rfl S3 rfl rfl rfl (by simp) Try.sizeP (by simp [Value.oneCell']) ?_; intro w4 S4))
  have S5 := S4.drew
  generalize w2.heap.size = pp at S5 ⊢
  obtain ⟨ra1, rc1, S6⟩ := PL_open.1 (S5.sel [2])
  refine wp_region_drawn (N := 11) (LN := #[false, false, false, false, false, false, false, false, false, false, false]) (by kernel_rfl) (by kernel_rfl) (by kernel_rfl) ?_
  generalize w4.drew = w5 at S6 ⊢
  refine wpAny_held (fun w' => w'.cell? ⟨pp, 0, none⟩ = some (.int .i64 s.id) ∧ w'.cell? ⟨g, 0, none⟩ = some (.int .i64 s.id)) ⟨(S6.cell 2 rfl 0 : _), (S6.cell 0 rfl 0 : _)⟩ (fun hHeld => ?_)
  refine wpAnyH_tk (i := 0) (v := ?_) (LN := #[true, false, false, false, false, false, false, false, false, false, false]) rfl (by kernel_rfl) (by kernel_rfl) (by kernel_rfl) (fun _ _ _ h => h) (by kernel_rfl) (by rfl) (by assumption) ?_ ?_
  rotate_left
  · intro w hSw; (try dsimp only at hSw); first | (go_simp; done) | (go_simp; with_reducible rfl)
  try simp only [Act.put, List.getElem_toArray, List.getElem_cons_zero, List.getElem_cons_succ, List.setIfInBounds_toArray, List.set_cons_zero, List.set_cons_succ]
  refine wpAnyH_tk (i := 1) (v := ?_) (LN := #[true, true, false, false, false, false, false, false, false, false, false]) rfl (by kernel_rfl) (by kernel_rfl) (by kernel_rfl) (fun _ _ _ h => h) (by kernel_rfl) (by rfl) (by assumption) ?_ ?_
  rotate_left
  · intro w hSw; (try dsimp only at hSw); first | (go_simp; done) | (go_simp; with_reducible rfl)
  try simp only [Act.put, List.getElem_toArray, List.getElem_cons_zero, List.getElem_cons_succ, List.setIfInBounds_toArray, List.set_cons_zero, List.set_cons_succ]
  refine wpAnyH_tk (i := 2) (v := ?_) (LN := #[true, true, true, false, false, false, false, false, false, false, false]) rfl (by kernel_rfl) (by kernel_rfl) (by kernel_rfl) (fun _ _ _ h => h) (by kernel_rfl) (by rfl) (by assumption) ?_ ?_
  rotate_left
  · intro w hSw; (try dsimp only at hSw); first | (go_simp; done) | (go_simp; with_reducible rfl)
  try simp only [Act.put, List.getElem_toArray, List.getElem_cons_zero, List.getElem_cons_succ, List.setIfInBounds_toArray, List.set_cons_zero, List.set_cons_succ]
  refine wpAnyH_tk (i := 3) (v := ?_) (LN := #[true, true, true, true, false, false, false, false, false, false, false]) rfl (by kernel_rfl) (by kernel_rfl) (by kernel_rfl) (fun _ _ _ h => h) (by kernel_rfl) (by rfl) (by assumption) ?_ ?_
  rotate_left
  · intro w hSw; (try dsimp only at hSw); first | (go_simp; done) | (go_simp; with_reducible rfl)
  try simp only [Act.put, List.getElem_toArray, List.getElem_cons_zero, List.getElem_cons_succ, List.setIfInBounds_toArray, List.set_cons_zero, List.set_cons_succ]
  refine wpAnyH_tk (i := 4) (v := ?_) (LN := #[true, true, true, true, true, false, false, false, false, false, false]) rfl (by kernel_rfl) (by kernel_rfl) (by kernel_rfl) (fun _ _ _ h => h) (by kernel_rfl) (by rfl) (by assumption) ?_ ?_
  rotate_left
  · intro w hSw; (try dsimp only at hSw); first | (go_simp; done) | (go_simp; with_reducible rfl)
  try simp only [Act.put, List.getElem_toArray, List.getElem_cons_zero, List.getElem_cons_succ, List.setIfInBounds_toArray, List.set_cons_zero, List.set_cons_succ]
  refine wpAnyH_tk (i := 5) (v := ?_) (LN := #[true, true, true, true, true, true, false, false, false, false, false]) rfl (by kernel_rfl) (by kernel_rfl) (by kernel_rfl) (fun _ _ _ h => h) (by kernel_rfl) (by rfl) (by assumption) ?_ ?_
  rotate_left
  · intro w hSw; (try dsimp only at hSw); first | (go_simp; done) | (go_simp; with_reducible rfl)
  try simp only [Act.put, List.getElem_toArray, List.getElem_cons_zero, List.getElem_cons_succ, List.setIfInBounds_toArray, List.set_cons_zero, List.set_cons_succ]
  refine wpAnyH_tk (i := 6) (v := ?_) (LN := #[true, true, true, true, true, true, true, false, false, false, false]) rfl (by kernel_rfl) (by kernel_rfl) (by kernel_rfl) (fun _ _ _ h => h) (by kernel_rfl) (by rfl) (by assumption) ?_ ?_
  rotate_left
  · intro w hSw; (try dsimp only at hSw); first | (go_simp; done) | (go_simp; with_reducible rfl)
  try simp only [Act.put, List.getElem_toArray, List.getElem_cons_zero, List.getElem_cons_succ, List.setIfInBounds_toArray, List.set_cons_zero, List.set_cons_succ]
  refine wpAnyH_tk (i := 7) (v := ?_) (LN := #[true, true, true, true, true, true, true, true, false, false, false]) rfl (by kernel_rfl) (by kernel_rfl) (by kernel_rfl) (fun _ _ _ h => h) (by kernel_rfl) (by rfl) (by assumption) ?_ ?_
  rotate_left
  · intro w hSw; (try dsimp only at hSw); first | (go_simp; done) | (go_simp; with_reducible rfl)
  try simp only [Act.put, List.getElem_toArray, List.getElem_cons_zero, List.getElem_cons_succ, List.setIfInBounds_toArray, List.set_cons_zero, List.set_cons_succ]
  refine wpAnyH_tk (i := 8) (v := ?_) (LN := #[true, true, true, true, true, true, true, true, true, false, false]) rfl (by kernel_rfl) (by kernel_rfl) (by kernel_rfl) (fun _ _ _ h => h) (by kernel_rfl) (by rfl) (by assumption) ?_ ?_
  rotate_left
  · intro w hSw; (try dsimp only at hSw); first | (go_simp; done) | (go_simp; with_reducible rfl)
  try simp only [Act.put, List.getElem_toArray, List.getElem_cons_zero, List.getElem_cons_succ, List.setIfInBounds_toArray, List.set_cons_zero, List.set_cons_succ]
  refine wpAnyH_tk (i := 9) (v := ?_) (LN := #[true, true, true, true, true, true, true, true, true, true, false]) rfl (by kernel_rfl) (by kernel_rfl) (by kernel_rfl) (fun _ _ _ h => h) (by kernel_rfl) (by rfl) (by assumption) ?_ ?_
  rotate_left
  · intro w hSw; (try dsimp only at hSw); first | (go_simp; done) | (go_simp; with_reducible rfl)
  try simp only [Act.put, List.getElem_toArray, List.getElem_cons_zero, List.getElem_cons_succ, List.setIfInBounds_toArray, List.set_cons_zero, List.set_cons_succ]
  refine wpAnyH_tk (i := 10) (v := ?_) (LN := #[true, true, true, true, true, true, true, true, true, true, true]) rfl (by kernel_rfl) (by kernel_rfl) (by kernel_rfl) (fun _ _ _ h => h) (by kernel_rfl) (by rfl) (by assumption) ?_ ?_
  rotate_left
  · intro w hSw; (try dsimp only at hSw); first | (go_simp; done) | (go_simp; with_reducible rfl)
  try simp only [Act.put, List.getElem_toArray, List.getElem_cons_zero, List.getElem_cons_succ, List.setIfInBounds_toArray, List.set_cons_zero, List.set_cons_succ]
  refine ⟨by kernel_rfl, ?_⟩
  try simp only [Act.put, List.getElem_toArray, List.getElem_cons_zero, List.getElem_cons_succ, List.setIfInBounds_toArray, List.set_cons_zero, List.set_cons_succ]
  clear hHeld S5 S4 S3 S2 S0 HRD S
  obtain ⟨hs, -, hl, S7⟩ := brs_out S6.swap
  have S8 : Sat W0 w5 (LK g s.id (.slice ra1 s.rows.length rc1) s.first (s.under : Int) s.came s.waited s.sent s.vain :: slc 29 1 ra1 s.rows.length rc1 (hs.map hv) :: rowsB hs s.rows :: blk pp [.int .i64 s.id, .int .i64 qn, .int .i64 qa, .slice pa qr.length pc] 74 :: sbs pa qr.length pc qr :: L) := S7.sel [2]
  clear S7 S6
  go_wp2_with fail
  go_loopw [] (fun wr => ∃ (s1 : LS) (ra : Option Addr) (rc : Nat) (hs : List Hd), Hid (s1.Ok (N + 16 - s1.under)) ∧ Hid (ackP qa s1.under s1 = ackP qa s.under s) ∧ s1.id = s.id ∧ Sat W0 wr (LKs g s1 ra rc :: slc 29 1 ra s1.rows.length rc (hs.map hv) :: rowsB hs s1.rows :: blk pp [.int .i64 s.id, .int .i64 qn, .int .i64 qa, .slice pa qr.length pc] 74 :: sbs pa qr.length pc qr :: L)) (fun wr => cellN wr g 3)
  case atStart =>
    exact ⟨s, ra1, rc1, hs, HOK.out.mono (by have := HOK.out.u16; omega), rfl, rfl, S8⟩
  case round =>
    clear S8
    obtain ⟨s1, ra, rc, hs, HO1, HA, hi1, S9⟩ := hrel
    have hmeas : cellN wr g 3 = s1.under := by
      have := S9.cell 0 rfl 3
      unfold cellN
      rw [this]
      simp [lkc]
    have hul := HO1.out.ul
    have hu16 := HO1.out.u16
    have S10 : Sat W0 wr.drew (LKs g s1 ra rc :: slc 29 1 ra s1.rows.length rc (hs.map hv) :: rowsB hs s1.rows :: blk pp [.int .i64 s.id, .int .i64 qn, .int .i64 qa, .slice pa qr.length pc] 74 :: sbs pa qr.length pc qr :: L) := S9.drew
    clear S9
    have HC := Lib.hid (fun (w' : World) (M : List Asn) (v : Value) (h : Sat W0 w' (LK g s1.id v s1.first (s1.under : Int) s1.came s1.waited s1.sent s1.vain :: slc 29 1 ra s1.rows.length rc (hs.map hv) :: rowsB hs s1.rows :: blk pp [.int .i64 s.id, .int .i64 qn, .int .i64 qa, .slice pa qr.length pc] 74 :: M)) =>
      (⟨(h.cell 0 rfl 3 : _), (h.cell 0 rfl 2 : _), (h.cell 3 rfl 2 : _)⟩ : w'.cell? ⟨g, 3, none⟩ = some (.int .i64 (s1.under : Int)) ∧ w'.cell? ⟨g, 2, none⟩ = some (.int .i64 s1.first) ∧ w'.cell? ⟨pp, 2, none⟩ = some (.int .i64 qa)))
    by_cases hco : 0 < s1.under ∧ s1.first ≤ qa
    · have hd1 : decide ((0 : Int) < ((s1.under : Nat) : Int)) = true := decide_eq_true (by omega)
      have hd2 : decide (s1.first ≤ qa) = true := decide_eq_true hco.2
      have hw1 : IntKind.i64.wrap (s1.first + 1) = s1.first + 1 := by have := HN.out; have := HO1.out.f1; have := HO1.out.fN; rw [IntKind.wrap_i64]; omega
      have hw2 : IntKind.i64.wrap (((s1.under : Nat) : Int) - 1) = ((s1.under : Nat) : Int) - 1 := by rw [IntKind.wrap_i64]; omega
      go_upto_region 7 with fail
      refine wp_region_drawn (N := 14) (LN := #[false, false, false, false, false, false, false, false, false, false, false, false, false, false]) (by kernel_rfl) (by kernel_rfl) (by kernel_rfl) ?_
      generalize wr.drew = w5 at S10 ⊢
      refine wpAny_held (fun w' => w'.cell? ⟨g, 3, none⟩ = some (.int .i64 (s1.under : Int)) ∧ w'.cell? ⟨g, 2, none⟩ = some (.int .i64 s1.first) ∧ w'.cell? ⟨pp, 2, none⟩ = some (.int .i64 qa)) (HC.out _ _ _ S10) (fun hHeld => ?_)
      refine wpAnyH_tk (i := 0) (v := ?_) (LN := #[true, false, false, false, false, false, false, false, false, false, false, false, false, false]) rfl (by kernel_rfl) (by kernel_rfl) (by kernel_rfl) (fun _ _ _ h => h) (by kernel_rfl) (by rfl) (by assumption) ?_ ?_
      rotate_left
      · intro w hSw; (try dsimp only at hSw); first | (go_simp; done) | (go_simp; with_reducible rfl)
      try simp only [Act.put, List.getElem_toArray, List.getElem_cons_zero, List.getElem_cons_succ, List.setIfInBounds_toArray, List.set_cons_zero, List.set_cons_succ]
      refine wpAnyH_tk (i := 1) (v := ?_) (LN := #[true, true, false, false, false, false, false, false, false, false, false, false, false, false]) rfl (by kernel_rfl) (by kernel_rfl) (by kernel_rfl) (fun _ _ _ h => h) (by kernel_rfl) (by rfl) (by assumption) ?_ ?_
      rotate_left
      · intro w hSw; (try dsimp only at hSw); first | (go_simp; done) | (go_simp; with_reducible rfl)
      try simp only [Act.put, List.getElem_toArray, List.getElem_cons_zero, List.getElem_cons_succ, List.setIfInBounds_toArray, List.set_cons_zero, List.set_cons_succ]
      refine wpAnyH_tk (i := 2) (v := ?_) (LN := #[true, true, true, false, false, false, false, false, false, false, false, false, false, false]) rfl (by kernel_rfl) (by kernel_rfl) (by kernel_rfl) (fun _ _ _ h => h) (by kernel_rfl) (by rfl) (by assumption) ?_ ?_
      rotate_left
      · intro w hSw; (try dsimp only at hSw); first | (go_simp; done) | (go_simp; with_reducible rfl)
      try simp only [Act.put, List.getElem_toArray, List.getElem_cons_zero, List.getElem_cons_succ, List.setIfInBounds_toArray, List.set_cons_zero, List.set_cons_succ]
      refine wpAnyH_tk (i := 3) (v := ?_) (LN := #[true, true, true, true, false, false, false, false, false, false, false, false, false, false]) rfl (by kernel_rfl) (by kernel_rfl) (by kernel_rfl) (fun _ _ _ h => h) (by kernel_rfl) (by rfl) (by assumption) ?_ ?_
      rotate_left
      · intro w hSw; (try dsimp only at hSw); first | (go_simp; done) | (go_simp; with_reducible rfl)
      try simp only [Act.put, List.getElem_toArray, List.getElem_cons_zero, List.getElem_cons_succ, List.setIfInBounds_toArray, List.set_cons_zero, List.set_cons_succ]
      refine wpAnyH_tk (i := 4) (v := ?_) (LN := #[true, true, true, true, true, false, false, false, false, false, false, false, false, false]) rfl (by kernel_rfl) (by kernel_rfl) (by kernel_rfl) (fun _ _ _ h => h) (by kernel_rfl) (by rfl) (by assumption) ?_ ?_
      rotate_left
      · intro w hSw; (try dsimp only at hSw); first | (go_simp; done) | (go_simp; with_reducible rfl)
      try simp only [Act.put, List.getElem_toArray, List.getElem_cons_zero, List.getElem_cons_succ, List.setIfInBounds_toArray, List.set_cons_zero, List.set_cons_succ]
      refine wpAnyH_tk (i := 5) (v := ?_) (LN := #[true, true, true, true, true, true, false, false, false, false, false, false, false, false]) rfl (by kernel_rfl) (by kernel_rfl) (by kernel_rfl) (fun _ _ _ h => h) (by kernel_rfl) (by rfl) (by assumption) ?_ ?_
      rotate_left
      · intro w hSw; (try dsimp only at hSw); first | (go_simp; done) | (go_simp; with_reducible rfl)
      try simp only [Act.put, List.getElem_toArray, List.getElem_cons_zero, List.getElem_cons_succ, List.setIfInBounds_toArray, List.set_cons_zero, List.set_cons_succ]
      refine wpAnyH_tk (i := 6) (v := ?_) (LN := #[true, true, true, true, true, true, true, false, false, false, false, false, false, false]) rfl (by kernel_rfl) (by kernel_rfl) (by kernel_rfl) (fun _ _ _ h => h) (by kernel_rfl) (by rfl) (by assumption) ?_ ?_
      rotate_left
      · intro w hSw; (try dsimp only at hSw); first | (go_simp; done) | (go_simp; with_reducible rfl)
      try simp only [Act.put, List.getElem_toArray, List.getElem_cons_zero, List.getElem_cons_succ, List.setIfInBounds_toArray, List.set_cons_zero, List.set_cons_succ]
      refine wpAnyH_tk (i := 7) (v := ?_) (LN := #[true, true, true, true, true, true, true, true, false, false, false, false, false, false]) rfl (by kernel_rfl) (by kernel_rfl) (by kernel_rfl) (fun _ _ _ h => h) (by kernel_rfl) (by rfl) (by assumption) ?_ ?_
      rotate_left
      · intro w hSw; (try dsimp only at hSw); first | (go_simp; done) | (go_simp; with_reducible rfl)
      try simp only [Act.put, List.getElem_toArray, List.getElem_cons_zero, List.getElem_cons_succ, List.setIfInBounds_toArray, List.set_cons_zero, List.set_cons_succ]
      refine wpAnyH_tk (i := 8) (v := ?_) (LN := #[true, true, true, true, true, true, true, true, true, false, false, false, false, false]) rfl (by kernel_rfl) (by kernel_rfl) (by kernel_rfl) (fun _ _ _ h => h) (by kernel_rfl) (by rfl) (by assumption) ?_ ?_
      rotate_left
      · intro w hSw; (try dsimp only at hSw); first | (go_simp; done) | (go_simp; with_reducible rfl)
      try simp only [Act.put, List.getElem_toArray, List.getElem_cons_zero, List.getElem_cons_succ, List.setIfInBounds_toArray, List.set_cons_zero, List.set_cons_succ]
      refine wpAnyH_tk (i := 9) (v := ?_) (LN := #[true, true, true, true, true, true, true, true, true, true, false, false, false, false]) rfl (by kernel_rfl) (by kernel_rfl) (by kernel_rfl) (fun _ _ _ h => h) (by kernel_rfl) (by rfl) (by assumption) ?_ ?_
      rotate_left
      · intro w hSw; (try dsimp only at hSw); first | (go_simp; done) | (go_simp; with_reducible rfl)
      try simp only [Act.put, List.getElem_toArray, List.getElem_cons_zero, List.getElem_cons_succ, List.setIfInBounds_toArray, List.set_cons_zero, List.set_cons_succ]
      refine wpAnyH_tk (i := 10) (v := ?_) (LN := #[true, true, true, true, true, true, true, true, true, true, true, false, false, false]) rfl (by kernel_rfl) (by kernel_rfl) (by kernel_rfl) (fun _ _ _ h => h) (by kernel_rfl) (by rfl) (by assumption) ?_ ?_
      rotate_left
      · intro w hSw; (try dsimp only at hSw); first | (go_simp; done) | (go_simp; with_reducible rfl)
      try simp only [Act.put, List.getElem_toArray, List.getElem_cons_zero, List.getElem_cons_succ, List.setIfInBounds_toArray, List.set_cons_zero, List.set_cons_succ]
      refine wpAnyH_tk (i := 11) (v := ?_) (LN := #[true, true, true, true, true, true, true, true, true, true, true, true, false, false]) rfl (by kernel_rfl) (by kernel_rfl) (by kernel_rfl) (fun _ _ _ h => h) (by kernel_rfl) (by rfl) (by assumption) ?_ ?_
      rotate_left
      · intro w hSw; (try dsimp only at hSw); first | (go_simp; done) | (go_simp; with_reducible rfl)
      try simp only [Act.put, List.getElem_toArray, List.getElem_cons_zero, List.getElem_cons_succ, List.setIfInBounds_toArray, List.set_cons_zero, List.set_cons_succ]
      refine wpAnyH_tk (i := 12) (v := ?_) (LN := #[true, true, true, true, true, true, true, true, true, true, true, true, true, false]) rfl (by kernel_rfl) (by kernel_rfl) (by kernel_rfl) (fun _ _ _ h => h) (by kernel_rfl) (by rfl) (by assumption) ?_ ?_
      rotate_left
      · intro w hSw; (try dsimp only at hSw); first | (go_simp; done) | (go_simp; with_reducible rfl)
      try simp only [Act.put, List.getElem_toArray, List.getElem_cons_zero, List.getElem_cons_succ, List.setIfInBounds_toArray, List.set_cons_zero, List.set_cons_succ]
      refine wpAnyH_tk (i := 13) (v := ?_) (LN := #[true, true, true, true, true, true, true, true, true, true, true, true, true, true]) rfl (by kernel_rfl) (by kernel_rfl) (by kernel_rfl) (fun _ _ _ h => h) (by kernel_rfl) (by rfl) (by assumption) ?_ ?_
      rotate_left
      · intro w hSw; (try dsimp only at hSw); first | (go_simp; done) | (go_simp; with_reducible rfl)
      try simp only [Act.put, List.getElem_toArray, List.getElem_cons_zero, List.getElem_cons_succ, List.setIfInBounds_toArray, List.set_cons_zero, List.set_cons_succ]
      refine ⟨by kernel_rfl, ?_⟩
      try simp only [Act.put, List.getElem_toArray, List.getElem_cons_zero, List.getElem_cons_succ, List.setIfInBounds_toArray, List.set_cons_zero, List.set_cons_succ]
      clear hHeld
      obtain ⟨si, rows, first, under, came, waited, sent, vain⟩ := s1
      dsimp only at *
      have hl1 := rowsB_len (S10.sel [2])
      cases rows with
      | nil => simp at hul; omega
      | cons x xs =>
      cases hs with
      | nil => simp at hl1
      | cons hd ht =>
      obtain ⟨rb, ro, rfl, -⟩ := (S10.sel [1]).own_rd 0 (hv hd) rfl
      have hlen := (S10.sel [1]).own_len
      have hlx : (x :: xs).length = xs.length + 1 := rfl
      obtain ⟨u, rfl⟩ : ∃ u, under = u + 1 := ⟨under - 1, by omega⟩
      have S11 : Sat W0 w5 (blk g [.int .i64 si, .slice (some ⟨rb, ro, none⟩) (xs.length + 1) rc, .int .i64 first, .int .i64 ((u : Int) + 1), .int .i64 came, .int .i64 waited, .int .i64 sent, .int .i64 vain] 71 :: slc 29 1 (some ⟨rb, ro, none⟩) (xs.length + 1) rc (hv hd :: ht.map hv) :: rowsB ht xs :: blk pp [.int .i64 s.id, .int .i64 qn, .int .i64 qa, .slice pa qr.length pc] 74 :: sbs pa qr.length pc qr :: L) := (rowsB_tail (S10.sel [2])).sel [1, 1]
      clear hlx
      have n1 := S11.cell 0 rfl 1
      have n2 := S11.cell 0 rfl 2
      have n3 := S11.cell 0 rfl 3
      have m1 := S11.frozen 0 rfl 1
      have m2 := S11.frozen 0 rfl 2
      have m3 := S11.frozen 0 rfl 3
      simp only [List.getElem?_cons_zero, List.getElem?_cons_succ] at n1 n2 n3
      have hw3 : IntKind.i64.wrap ((u : Int) + 1 - 1) = (u : Int) := by rw [IntKind.wrap_i64]; omega
      have hw4 : IntKind.i64.wrap (u : Int) = (u : Int) := by rw [IntKind.wrap_i64]; omega
      have hpop : LS.Ok (N + 16 - (u : Int)) ⟨si, xs, first + 1, u, came, waited, sent, vain⟩ := (HO1.out.pop rfl).mono (by simp only [Int.natCast_add]; omega)
      have hack : ackP qa u ⟨si, xs, first + 1, u, came, waited, sent, vain⟩ = ackP qa s.under s := by
        rw [← HA.out]
        exact (show ackP qa (u + 1) ⟨si, x :: xs, first, u + 1, came, waited, sent, vain⟩ = ackP qa u ⟨si, xs, first + 1, u, came, waited, sent, vain⟩ from if_pos hco.2).symm
      have HPOP := Lib.hid hpop
      have HACK := Lib.hid hack
      clear hpop hack HO1 HA S10
      by_cases hrc : rc = 1
      · subst hrc
        have S12 := ((S11.setCell (k := 1) (v := .slice (some ⟨rb, ro, none⟩) xs.length 0) 0 rfl).setCell (k := 2) (v := .int .i64 (first + 1)) 0 rfl).setCell (k := 3) (v := .int .i64 (u : Int)) 0 rfl
        go_wp2_with fail
        have hcell := S12.cell 0 rfl 3
        obtain ⟨e0, ex, S13⟩ := own_last (S12.sel [1])
        refine ⟨⟨⟨si, xs, first + 1, u, came, waited, sent, vain⟩, some ⟨rb, ro, none⟩, 0, ht, HPOP, HACK, hi1, ?_⟩, ?_⟩
        · have S14 : Sat W0 (((w5.setCell ⟨g, 1, none⟩ (.slice (some ⟨rb, ro, none⟩) xs.length 0)).setCell ⟨g, 2, none⟩ (.int .i64 (first + 1))).setCell ⟨g, 3, none⟩ (.int .i64 (u : Int))) (blk g [.int .i64 si, .slice (some ⟨rb, ro, none⟩) xs.length 0, .int .i64 (first + 1), .int .i64 (u : Int), .int .i64 came, .int .i64 waited, .int .i64 sent, .int .i64 vain] 71 :: slc 29 1 (some ⟨rb, ro, none⟩) xs.length 0 (ht.map hv) :: rowsB ht xs :: blk pp [.int .i64 s.id, .int .i64 qn, .int .i64 qa, .slice pa qr.length pc] 74 :: sbs pa qr.length pc qr :: L) := by
            have e9 : slc 29 1 (some ⟨rb, ro, none⟩) xs.length 0 (ht.map hv) = slc 29 1 (some ⟨rb, ro, none⟩) 0 0 [] := by rw [e0, ex]
            rw [e9]
            exact S13.swap
          exact S14
        · rw [hmeas]
          unfold cellN
          rw [hcell]
          simp
      · have hrc1 : 1 < rc := by omega
        have S12 := ((S11.setCell (k := 1) (v := .slice (some ⟨rb, ro + 1, none⟩) xs.length (rc - 1)) 0 rfl).setCell (k := 2) (v := .int .i64 (first + 1)) 0 rfl).setCell (k := 3) (v := .int .i64 (u : Int)) 0 rfl
        go_wp2_with fail
        have hcell := S12.cell 0 rfl 3
        have S13 := own_next (S12.sel [1])
        refine ⟨⟨⟨si, xs, first + 1, u, came, waited, sent, vain⟩, some ⟨rb, ro + 1, none⟩, rc - 1, ht, HPOP, HACK, hi1, ?_⟩, ?_⟩
        · exact S13.swap
        · rw [hmeas]
          unfold cellN
          rw [hcell]
          simp
    · have HS1 : Hid (ackP qa s.under s = s1) := by
        show _ = _
        rw [← HA.out]
        obtain ⟨si, rows, first, under, came, waited, sent, vain⟩ := s1
        cases under with
        | zero => rfl
        | succ u => exact if_neg (fun x => hco ⟨by simp, x⟩)
      clear HA
      have hw8 : IntKind.i64.wrap (s1.came + 1) = s1.came + 1 := by have := HN.out; have := HO1.out.c0; have := HO1.out.cN; rw [IntKind.wrap_i64]; omega
      have hw9 : IntKind.i64.wrap (s1.vain + 1) = s1.vain + 1 := by have := HN.out; have := HO1.out.v0; have := HO1.out.vN; rw [IntKind.wrap_i64]; omega
      go_upto_region 7 with fail
      by_cases h0 : s1.under = 0
      · have hd1 : decide ((0 : Int) < ((s1.under : Nat) : Int)) = false := decide_eq_false (by omega)
        refine wp_region_drawn (N := 14) (LN := #[false, false, false, false, false, false, false, false, false, false, false, false, false, false]) (by kernel_rfl) (by kernel_rfl) (by kernel_rfl) ?_
        generalize wr.drew = w5 at S10 ⊢
        refine wpAny_held (fun w' => w'.cell? ⟨g, 3, none⟩ = some (.int .i64 (s1.under : Int)) ∧ w'.cell? ⟨g, 2, none⟩ = some (.int .i64 s1.first) ∧ w'.cell? ⟨pp, 2, none⟩ = some (.int .i64 qa)) (HC.out _ _ _ S10) (fun hHeld => ?_)
        refine wpAnyH_tk (i := 0) (v := ?_) (LN := #[true, false, false, false, false, false, false, false, false, false, false, false, false, false]) rfl (by kernel_rfl) (by kernel_rfl) (by kernel_rfl) (fun _ _ _ h => h) (by kernel_rfl) (by rfl) (by assumption) ?_ ?_
        rotate_left
        · intro w hSw; (try dsimp only at hSw); first | (go_simp; done) | (go_simp; with_reducible rfl)
        try simp only [Act.put, List.getElem_toArray, List.getElem_cons_zero, List.getElem_cons_succ, List.setIfInBounds_toArray, List.set_cons_zero, List.set_cons_succ]
        refine wpAnyH_tk (i := 1) (v := ?_) (LN := #[true, true, false, false, false, false, false, false, false, false, false, false, false, false]) rfl (by kernel_rfl) (by kernel_rfl) (by kernel_rfl) (fun _ _ _ h => h) (by kernel_rfl) (by rfl) (by assumption) ?_ ?_
        rotate_left
        · intro w hSw; (try dsimp only at hSw); first | (go_simp; done) | (go_simp; with_reducible rfl)
        try simp only [Act.put, List.getElem_toArray, List.getElem_cons_zero, List.getElem_cons_succ, List.setIfInBounds_toArray, List.set_cons_zero, List.set_cons_succ]
        refine wpAnyH_tk (i := 2) (v := ?_) (LN := #[true, true, true, false, false, false, false, false, false, false, false, false, false, false]) rfl (by kernel_rfl) (by kernel_rfl) (by kernel_rfl) (fun _ _ _ h => h) (by kernel_rfl) (by rfl) (by assumption) ?_ ?_
        rotate_left
        · intro w hSw; (try dsimp only at hSw); first | (go_simp; done) | (go_simp; with_reducible rfl)
        try simp only [Act.put, List.getElem_toArray, List.getElem_cons_zero, List.getElem_cons_succ, List.setIfInBounds_toArray, List.set_cons_zero, List.set_cons_succ]
        refine wpAnyH_tk (i := 3) (v := ?_) (LN := #[true, true, true, true, false, false, false, false, false, false, false, false, false, false]) rfl (by kernel_rfl) (by kernel_rfl) (by kernel_rfl) (fun _ _ _ h => h) (by kernel_rfl) (by rfl) (by assumption) ?_ ?_
        rotate_left
        · intro w hSw; (try dsimp only at hSw); first | (go_simp; done) | (go_simp; with_reducible rfl)
        try simp only [Act.put, List.getElem_toArray, List.getElem_cons_zero, List.getElem_cons_succ, List.setIfInBounds_toArray, List.set_cons_zero, List.set_cons_succ]
        refine wpAnyH_tk (i := 4) (v := ?_) (LN := #[true, true, true, true, true, false, false, false, false, false, false, false, false, false]) rfl (by kernel_rfl) (by kernel_rfl) (by kernel_rfl) (fun _ _ _ h => h) (by kernel_rfl) (by rfl) (by assumption) ?_ ?_
        rotate_left
        · intro w hSw; (try dsimp only at hSw); first | (go_simp; done) | (go_simp; with_reducible rfl)
        try simp only [Act.put, List.getElem_toArray, List.getElem_cons_zero, List.getElem_cons_succ, List.setIfInBounds_toArray, List.set_cons_zero, List.set_cons_succ]
        refine wpAnyH_tk (i := 5) (v := ?_) (LN := #[true, true, true, true, true, true, false, false, false, false, false, false, false, false]) rfl (by kernel_rfl) (by kernel_rfl) (by kernel_rfl) (fun _ _ _ h => h) (by kernel_rfl) (by rfl) (by assumption) ?_ ?_
        rotate_left
        · intro w hSw; (try dsimp only at hSw); first | (go_simp; done) | (go_simp; with_reducible rfl)
        try simp only [Act.put, List.getElem_toArray, List.getElem_cons_zero, List.getElem_cons_succ, List.setIfInBounds_toArray, List.set_cons_zero, List.set_cons_succ]
        refine wpAnyH_off (i := 6) (LN := #[true, true, true, true, true, true, true, false, false, false, false, false, false, false]) rfl (by kernel_rfl) (by kernel_rfl) (by kernel_rfl) (fun _ _ _ h => h) (by kernel_rfl) (by rfl) (by assumption) ?_
        try simp only [Act.put, List.getElem_toArray, List.getElem_cons_zero, List.getElem_cons_succ, List.setIfInBounds_toArray, List.set_cons_zero, List.set_cons_succ]
        refine wpAnyH_off (i := 7) (LN := #[true, true, true, true, true, true, true, true, false, false, false, false, false, false]) rfl (by kernel_rfl) (by kernel_rfl) (by kernel_rfl) (fun _ _ _ h => h) (by kernel_rfl) (by rfl) (by assumption) ?_
        try simp only [Act.put, List.getElem_toArray, List.getElem_cons_zero, List.getElem_cons_succ, List.setIfInBounds_toArray, List.set_cons_zero, List.set_cons_succ]
        refine wpAnyH_off (i := 8) (LN := #[true, true, true, true, true, true, true, true, true, false, false, false, false, false]) rfl (by kernel_rfl) (by kernel_rfl) (by kernel_rfl) (fun _ _ _ h => h) (by kernel_rfl) (by rfl) (by assumption) ?_
        try simp only [Act.put, List.getElem_toArray, List.getElem_cons_zero, List.getElem_cons_succ, List.setIfInBounds_toArray, List.set_cons_zero, List.set_cons_succ]
        refine wpAnyH_off (i := 9) (LN := #[true, true, true, true, true, true, true, true, true, true, false, false, false, false]) rfl (by kernel_rfl) (by kernel_rfl) (by kernel_rfl) (fun _ _ _ h => h) (by kernel_rfl) (by rfl) (by assumption) ?_
        try simp only [Act.put, List.getElem_toArray, List.getElem_cons_zero, List.getElem_cons_succ, List.setIfInBounds_toArray, List.set_cons_zero, List.set_cons_succ]
        refine wpAnyH_off (i := 10) (LN := #[true, true, true, true, true, true, true, true, true, true, true, false, false, false]) rfl (by kernel_rfl) (by kernel_rfl) (by kernel_rfl) (fun _ _ _ h => h) (by kernel_rfl) (by rfl) (by assumption) ?_
        try simp only [Act.put, List.getElem_toArray, List.getElem_cons_zero, List.getElem_cons_succ, List.setIfInBounds_toArray, List.set_cons_zero, List.set_cons_succ]
        refine wpAnyH_off (i := 11) (LN := #[true, true, true, true, true, true, true, true, true, true, true, true, false, false]) rfl (by kernel_rfl) (by kernel_rfl) (by kernel_rfl) (fun _ _ _ h => h) (by kernel_rfl) (by rfl) (by assumption) ?_
        try simp only [Act.put, List.getElem_toArray, List.getElem_cons_zero, List.getElem_cons_succ, List.setIfInBounds_toArray, List.set_cons_zero, List.set_cons_succ]
        refine wpAnyH_off (i := 12) (LN := #[true, true, true, true, true, true, true, true, true, true, true, true, true, false]) rfl (by kernel_rfl) (by kernel_rfl) (by kernel_rfl) (fun _ _ _ h => h) (by kernel_rfl) (by rfl) (by assumption) ?_
        try simp only [Act.put, List.getElem_toArray, List.getElem_cons_zero, List.getElem_cons_succ, List.setIfInBounds_toArray, List.set_cons_zero, List.set_cons_succ]
        refine wpAnyH_tk (i := 13) (v := ?_) (LN := #[true, true, true, true, true, true, true, true, true, true, true, true, true, true]) rfl (by kernel_rfl) (by kernel_rfl) (by kernel_rfl) (fun _ _ _ h => h) (by kernel_rfl) (by rfl) (by assumption) ?_ ?_
        rotate_left
        · intro w hSw; (try dsimp only at hSw); first | (go_simp; done) | (go_simp; with_reducible rfl)
        try simp only [Act.put, List.getElem_toArray, List.getElem_cons_zero, List.getElem_cons_succ, List.setIfInBounds_toArray, List.set_cons_zero, List.set_cons_succ]
        refine ⟨by kernel_rfl, ?_⟩
        try simp only [Act.put, List.getElem_toArray, List.getElem_cons_zero, List.getElem_cons_succ, List.setIfInBounds_toArray, List.set_cons_zero, List.set_cons_succ]
        clear hHeld hd1 h0
        obtain ⟨i0, hi, hz0, hz1, hz2⟩ := info_parts Try.infoR
        have p1 := S10.cell 3 rfl 1
        simp only [List.getElem?_cons_zero, List.getElem?_cons_succ] at p1
        by_cases hq0 : qn = 0
        · subst hq0
          have et : t = s1 := by rw [← HT.out]; unfold gotP; dsimp only; rw [HS1.out, if_pos rfl]
          have hnr : nr = [] := by rw [← HNR.out, newRows_eq]; exact if_neg (fun x => x.1 rfl)
          clear HT HNR
          subst et
          have SP : Sat W0 w5 (PL g t :: _) := PL_open.2 ⟨ra, rc, (brs_in rfl (S10.sel [1, 1]) : Sat W0 w5 (brs ra t.rows.length rc t.rows :: _)).swap⟩
          have hR0 : R = (nr, out, f) := by rw [HRR.out, if_neg (fun x => absurd x.1 (by decide))]
          subst hR0 hnr
          go_wp2_with (first | (go_at_call 29; refine (HFILL.out _ _ SP).mono ?_; unfold Outs; rintro e w8 ⟨oa, oc, rfl, S11⟩; have p1 := S11.cell 2 rfl 1; simp only [List.getElem?_cons_zero, List.getElem?_cons_succ] at p1))
          go_ret2
          exact ⟨none, 0, _, _, rfl, brs_none (((S11).sel [2, 2]).tail.tail)⟩
        have hqz : (qn == 0) = false := by simpa using hq0
        have hca : s1.came = s.came := by rw [← HS1.out]; exact (ackP_id _ _).2.1
        by_cases hq1 : qn = s1.came + 1
        · have hqe : (qn == s1.came + 1) = true := by simpa using hq1
          have et : t = { s1 with came := s1.came + 1 } := by rw [← HT.out]; unfold gotP; dsimp only; rw [HS1.out, if_neg hq0, if_pos hq1]
          have hnr : nr = [qr] := by rw [← HNR.out, newRows_eq]; exact if_pos ⟨hq0, by rw [← hca]; exact hq1⟩
          have HHA : Hid (t = { s1 with came := s1.came + 1 }) := et
          clear et hca hq1 HT HNR hq0 hi1
          go_wp2_with fail
          refine wp_region_drawn (N := 9) (LN := #[false, false, false, false, false, false, false, false, false]) (by kernel_rfl) (by kernel_rfl) (by kernel_rfl) ?_
          have S10d := S10.drew
          generalize w5.drew = w6 at S10d ⊢
          refine wpAny_held (fun w' => w'.cell? ⟨pp, 1, none⟩ = some (.int .i64 qn) ∧ w'.cell? ⟨g, 4, none⟩ = some (.int .i64 s1.came)) ⟨(S10d.cell 3 rfl 1 : _), (S10d.cell 0 rfl 4 : _)⟩ (fun hHeld => ?_)
          refine wpAnyH_tk (i := 0) (v := ?_) (LN := #[true, false, false, false, false, false, false, false, false]) rfl (by kernel_rfl) (by kernel_rfl) (by kernel_rfl) (fun _ _ _ h => h) (by kernel_rfl) (by rfl) (by assumption) ?_ ?_
          rotate_left
          · intro w hSw; (try dsimp only at hSw); first | (go_simp; done) | (go_simp; with_reducible rfl)
          try simp only [Act.put, List.getElem_toArray, List.getElem_cons_zero, List.getElem_cons_succ, List.setIfInBounds_toArray, List.set_cons_zero, List.set_cons_succ]
          refine wpAnyH_tk (i := 1) (v := ?_) (LN := #[true, true, false, false, false, false, false, false, false]) rfl (by kernel_rfl) (by kernel_rfl) (by kernel_rfl) (fun _ _ _ h => h) (by kernel_rfl) (by rfl) (by assumption) ?_ ?_
          rotate_left
          · intro w hSw; (try dsimp only at hSw); first | (go_simp; done) | (go_simp; with_reducible rfl)
          try simp only [Act.put, List.getElem_toArray, List.getElem_cons_zero, List.getElem_cons_succ, List.setIfInBounds_toArray, List.set_cons_zero, List.set_cons_succ]
          refine wpAnyH_tk (i := 2) (v := ?_) (LN := #[true, true, true, false, false, false, false, false, false]) rfl (by kernel_rfl) (by kernel_rfl) (by kernel_rfl) (fun _ _ _ h => h) (by kernel_rfl) (by rfl) (by assumption) ?_ ?_
          rotate_left
          · intro w hSw; (try dsimp only at hSw); first | (go_simp; done) | (go_simp; with_reducible rfl)
          try simp only [Act.put, List.getElem_toArray, List.getElem_cons_zero, List.getElem_cons_succ, List.setIfInBounds_toArray, List.set_cons_zero, List.set_cons_succ]
          refine wpAnyH_tk (i := 3) (v := ?_) (LN := #[true, true, true, true, false, false, false, false, false]) rfl (by kernel_rfl) (by kernel_rfl) (by kernel_rfl) (fun _ _ _ h => h) (by kernel_rfl) (by rfl) (by assumption) ?_ ?_
          rotate_left
          · intro w hSw; (try dsimp only at hSw); first | (go_simp; done) | (go_simp; with_reducible rfl)
          try simp only [Act.put, List.getElem_toArray, List.getElem_cons_zero, List.getElem_cons_succ, List.setIfInBounds_toArray, List.set_cons_zero, List.set_cons_succ]
          refine wpAnyH_tk (i := 4) (v := ?_) (LN := #[true, true, true, true, true, false, false, false, false]) rfl (by kernel_rfl) (by kernel_rfl) (by kernel_rfl) (fun _ _ _ h => h) (by kernel_rfl) (by rfl) (by assumption) ?_ ?_
          rotate_left
          · intro w hSw; (try dsimp only at hSw); first | (go_simp; done) | (go_simp; with_reducible rfl)
          try simp only [Act.put, List.getElem_toArray, List.getElem_cons_zero, List.getElem_cons_succ, List.setIfInBounds_toArray, List.set_cons_zero, List.set_cons_succ]
          refine wpAnyH_tk (i := 5) (v := ?_) (LN := #[true, true, true, true, true, true, false, false, false]) rfl (by kernel_rfl) (by kernel_rfl) (by kernel_rfl) (fun _ _ _ h => h) (by kernel_rfl) (by rfl) (by assumption) ?_ ?_
          rotate_left
          · intro w hSw; (try dsimp only at hSw); first | (go_simp; done) | (go_simp; with_reducible rfl)
          try simp only [Act.put, List.getElem_toArray, List.getElem_cons_zero, List.getElem_cons_succ, List.setIfInBounds_toArray, List.set_cons_zero, List.set_cons_succ]
          refine wpAnyH_tk (i := 6) (v := ?_) (LN := #[true, true, true, true, true, true, true, false, false]) rfl (by kernel_rfl) (by kernel_rfl) (by kernel_rfl) (fun _ _ _ h => h) (by kernel_rfl) (by rfl) (by assumption) ?_ ?_
          rotate_left
          · intro w hSw; (try dsimp only at hSw); first | (go_simp; done) | (go_simp; with_reducible rfl)
          try simp only [Act.put, List.getElem_toArray, List.getElem_cons_zero, List.getElem_cons_succ, List.setIfInBounds_toArray, List.set_cons_zero, List.set_cons_succ]
          refine wpAnyH_tk (i := 7) (v := ?_) (LN := #[true, true, true, true, true, true, true, true, false]) rfl (by kernel_rfl) (by kernel_rfl) (by kernel_rfl) (fun _ _ _ h => h) (by kernel_rfl) (by rfl) (by assumption) ?_ ?_
          rotate_left
          · intro w hSw; (try dsimp only at hSw); first | (go_simp; done) | (go_simp; with_reducible rfl)
          try simp only [Act.put, List.getElem_toArray, List.getElem_cons_zero, List.getElem_cons_succ, List.setIfInBounds_toArray, List.set_cons_zero, List.set_cons_succ]
          refine wpAnyH_tk (i := 8) (v := ?_) (LN := #[true, true, true, true, true, true, true, true, true]) rfl (by kernel_rfl) (by kernel_rfl) (by kernel_rfl) (fun _ _ _ h => h) (by kernel_rfl) (by rfl) (by assumption) ?_ ?_
          rotate_left
          · intro w hSw; (try dsimp only at hSw); first | (go_simp; done) | (go_simp; with_reducible rfl)
          try simp only [Act.put, List.getElem_toArray, List.getElem_cons_zero, List.getElem_cons_succ, List.setIfInBounds_toArray, List.set_cons_zero, List.set_cons_succ]
          refine ⟨by kernel_rfl, ?_⟩
          try simp only [Act.put, List.getElem_toArray, List.getElem_cons_zero, List.getElem_cons_succ, List.setIfInBounds_toArray, List.set_cons_zero, List.set_cons_succ]
          clear hHeld p1 S10
          have n4 := S10d.cell 0 rfl 4
          have m4 := S10d.frozen 0 rfl 4
          have p3 := S10d.cell 3 rfl 3
          simp only [lkc, List.getElem?_cons_zero, List.getElem?_cons_succ] at p3 n4
          have U1 := S10d.setCell (k := 4) (v := .int .i64 (s1.came + 1)) 0 rfl
          have U2 := (Sat.own_none (e := 29) (size := 1) (n := 0) (cap := 0) (xs := [])).2 ⟨rfl, rfl, rfl, U1⟩
          have U3 := U2.alloc [.slice pa qr.length pc] 29
          simp only [World.size_setCell] at U3
          go_wp2_with (first
            | (at_builtin; refine wpList_append_sat rfl (.tmp 96) (.tmp 99) _ rfl 29 i0 _ 1 24 Try.underlying25 hi hz0 hz1 hz2 rfl (by decide) (U3.sel [1]) rfl rfl (Rd.lit (U3.block 0 rfl).1) (by rfl) (by simp [Value.oneCell']) (by unfold maxLen; simp) (by simp) ?_; intro ra9 rc9 w9 U4; have U5 := (U4.sel [0, 5]).emp.sel [1, 1]; have U6 := brs_push (hs := []) (rs := []) (r := qr) rfl U5; have U7 := brs_in rfl (U6.sel [3, 3]); have p1 := U7.cell 4 rfl 1; simp only [List.getElem?_cons_zero, List.getElem?_cons_succ] at p1; have SP : Sat W0 w9 (PL g { s1 with came := s1.came + 1 } :: _) := PL_open.2 ⟨ra, rc, U7.sel [3]⟩; rw [← HHA.out] at SP)
            | fail)
          by_cases hqp : 0 < qn
          · have hdq : decide (0 < qn) = true := decide_eq_true hqp
            by_cases hz : out = []
            · have hR0 : R = (nr, [packP f.id 0 f.came []], { f with sent := f.sent + 1 }) := by rw [HRR.out, if_pos ⟨hqp, hz⟩]
              subst hR0 hnr
              have hI := HFOK.out.id
              have HI := Lib.hid hI
              have hfc := HFOK.out.i64 (by have := HN.out; omega)
              have HCI := Lib.hid hfc
              have hfs : 0 ≤ f.sent ∧ f.sent ≤ 1000000000000000 := ⟨HFOK.out.s0, by have := HFOK.out.sN; have := HN.out; omega⟩
              have HFS := Lib.hid hfs
              clear hI hfc hfs
              subst hz
              go_wp2_with (first
                | (go_at_call 29; refine (HFILL.out _ _ SP).mono ?_; unfold Outs; rintro e w8 ⟨oa, oc, rfl, S11⟩; have p1 := S11.cell 4 rfl 1; simp only [List.getElem?_cons_zero, List.getElem?_cons_succ] at p1; obtain ⟨fa, fc, S12⟩ := PL_open.1 S11.swap)
                | (go_at_call 31; refine (packet_any (S12 : Sat W0 _ (LK g f.id _ f.first (f.under : Int) f.came f.waited f.sent f.vain :: _)) 0 (r := []) (fun _ _ => Rd.nil _ _) rfl (fun x hx => by simp at hx) HI.out (by unfold I64; omega) HCI.out HFS.out (by simp) (wt := f.waited) (if_neg (by omega))).mono ?_; unfold Packed; rintro e w9 ⟨ka, kc, rfl, S13⟩; have S14 := S13.alloc [.slice ka (packP f.id 0 f.came []).length kc] 29; obtain ⟨ho, -, hol, S15⟩ := brs_out (S14.sel [4]))
                | (at_builtin; refine wpList_append_sat rfl (.tmp 111) (.tmp 114) _ rfl 29 i0 _ 1 24 Try.underlying25 hi hz0 hz1 hz2 rfl (by decide) S15 rfl rfl (Rd.lit (S14.block 0 rfl).1) (by rfl) (by simp [Value.oneCell']) (by unfold maxLen; simp) (by simp) ?_; intro ao16 cp16 w16 S16))
              go_ret2
              have T1 := brs_push (rs := []) rfl (S16.sel [0, 2, 0])
              have T2 := ((T1.sel [1]).tail.sel [1, 1])
              have T3 : Sat W0 _ (PL g { f with sent := f.sent + 1 } :: brs ao16 (0 + 1) cp16 ([] ++ [packP f.id 0 f.came []]) :: _) := PL_open.2 ⟨fa, fc, T2⟩
              exact ⟨ra9, rc9, _, _, rfl, (((T3.swap).sel [3, 3]).tail.tail.sel [2] : Sat W0 _ (brs ra9 1 rc9 [qr] :: _))⟩
            · have hR0 : R = (nr, out, f) := by rw [HRR.out, if_neg (fun x => hz x.2)]
              subst hR0 hnr
              have hzl : (((out.length : Nat) : Int) == 0) = false := by
                cases out with
                | nil => exact absurd rfl hz
                | cons x r => simp; omega
              clear hz
              go_wp2_with (first | (go_at_call 29; refine (HFILL.out _ _ SP).mono ?_; unfold Outs; rintro e w8 ⟨oa, oc, rfl, S11⟩; have p1 := S11.cell 4 rfl 1; simp only [List.getElem?_cons_zero, List.getElem?_cons_succ] at p1))
              go_ret2
              exact ⟨ra9, rc9, _, _, rfl, (((S11).sel [3, 3]).tail.tail.sel [2] : Sat W0 _ (brs ra9 1 rc9 [qr] :: _))⟩
          · have hdq : decide (0 < qn) = false := decide_eq_false hqp
            have hR0 : R = (nr, out, f) := by rw [HRR.out, if_neg (fun x => hqp x.1)]
            subst hR0 hnr
            go_wp2_with (first | (go_at_call 29; refine (HFILL.out _ _ SP).mono ?_; unfold Outs; rintro e w8 ⟨oa, oc, rfl, S11⟩; have p1 := S11.cell 4 rfl 1; simp only [List.getElem?_cons_zero, List.getElem?_cons_succ] at p1))
            go_ret2
            exact ⟨ra9, rc9, _, _, rfl, (((S11).sel [3, 3]).tail.tail.sel [2] : Sat W0 _ (brs ra9 1 rc9 [qr] :: _))⟩
        · have hqe : (qn == s1.came + 1) = false := by simpa using hq1
          have et : t = { s1 with vain := s1.vain + 1 } := by rw [← HT.out]; unfold gotP; dsimp only; rw [HS1.out, if_neg hq0, if_neg hq1]
          have hnr : nr = [] := by rw [← HNR.out, newRows_eq]; exact if_neg (fun x => hq1 (by rw [hca]; exact x.2))
          have HHA : Hid (t = { s1 with vain := s1.vain + 1 }) := et
          clear et hca hq1 HT HNR hq0 hi1
          go_wp2_with fail
          refine wp_region_drawn (N := 9) (LN := #[false, false, false, false, false, false, false, false, false]) (by kernel_rfl) (by kernel_rfl) (by kernel_rfl) ?_
          have S10d := S10.drew
          generalize w5.drew = w6 at S10d ⊢
          refine wpAny_held (fun w' => w'.cell? ⟨pp, 1, none⟩ = some (.int .i64 qn) ∧ w'.cell? ⟨g, 4, none⟩ = some (.int .i64 s1.came)) ⟨(S10d.cell 3 rfl 1 : _), (S10d.cell 0 rfl 4 : _)⟩ (fun hHeld => ?_)
          refine wpAnyH_tk (i := 0) (v := ?_) (LN := #[true, false, false, false, false, false, false, false, false]) rfl (by kernel_rfl) (by kernel_rfl) (by kernel_rfl) (fun _ _ _ h => h) (by kernel_rfl) (by rfl) (by assumption) ?_ ?_
          rotate_left
          · intro w hSw; (try dsimp only at hSw); first | (go_simp; done) | (go_simp; with_reducible rfl)
          try simp only [Act.put, List.getElem_toArray, List.getElem_cons_zero, List.getElem_cons_succ, List.setIfInBounds_toArray, List.set_cons_zero, List.set_cons_succ]
          refine wpAnyH_tk (i := 1) (v := ?_) (LN := #[true, true, false, false, false, false, false, false, false]) rfl (by kernel_rfl) (by kernel_rfl) (by kernel_rfl) (fun _ _ _ h => h) (by kernel_rfl) (by rfl) (by assumption) ?_ ?_
          rotate_left
          · intro w hSw; (try dsimp only at hSw); first | (go_simp; done) | (go_simp; with_reducible rfl)
          try simp only [Act.put, List.getElem_toArray, List.getElem_cons_zero, List.getElem_cons_succ, List.setIfInBounds_toArray, List.set_cons_zero, List.set_cons_succ]
          refine wpAnyH_tk (i := 2) (v := ?_) (LN := #[true, true, true, false, false, false, false, false, false]) rfl (by kernel_rfl) (by kernel_rfl) (by kernel_rfl) (fun _ _ _ h => h) (by kernel_rfl) (by rfl) (by assumption) ?_ ?_
          rotate_left
          · intro w hSw; (try dsimp only at hSw); first | (go_simp; done) | (go_simp; with_reducible rfl)
          try simp only [Act.put, List.getElem_toArray, List.getElem_cons_zero, List.getElem_cons_succ, List.setIfInBounds_toArray, List.set_cons_zero, List.set_cons_succ]
          refine wpAnyH_tk (i := 3) (v := ?_) (LN := #[true, true, true, true, false, false, false, false, false]) rfl (by kernel_rfl) (by kernel_rfl) (by kernel_rfl) (fun _ _ _ h => h) (by kernel_rfl) (by rfl) (by assumption) ?_ ?_
          rotate_left
          · intro w hSw; (try dsimp only at hSw); first | (go_simp; done) | (go_simp; with_reducible rfl)
          try simp only [Act.put, List.getElem_toArray, List.getElem_cons_zero, List.getElem_cons_succ, List.setIfInBounds_toArray, List.set_cons_zero, List.set_cons_succ]
          refine wpAnyH_tk (i := 4) (v := ?_) (LN := #[true, true, true, true, true, false, false, false, false]) rfl (by kernel_rfl) (by kernel_rfl) (by kernel_rfl) (fun _ _ _ h => h) (by kernel_rfl) (by rfl) (by assumption) ?_ ?_
          rotate_left
          · intro w hSw; (try dsimp only at hSw); first | (go_simp; done) | (go_simp; with_reducible rfl)
          try simp only [Act.put, List.getElem_toArray, List.getElem_cons_zero, List.getElem_cons_succ, List.setIfInBounds_toArray, List.set_cons_zero, List.set_cons_succ]
          refine wpAnyH_tk (i := 5) (v := ?_) (LN := #[true, true, true, true, true, true, false, false, false]) rfl (by kernel_rfl) (by kernel_rfl) (by kernel_rfl) (fun _ _ _ h => h) (by kernel_rfl) (by rfl) (by assumption) ?_ ?_
          rotate_left
          · intro w hSw; (try dsimp only at hSw); first | (go_simp; done) | (go_simp; with_reducible rfl)
          try simp only [Act.put, List.getElem_toArray, List.getElem_cons_zero, List.getElem_cons_succ, List.setIfInBounds_toArray, List.set_cons_zero, List.set_cons_succ]
          refine wpAnyH_tk (i := 6) (v := ?_) (LN := #[true, true, true, true, true, true, true, false, false]) rfl (by kernel_rfl) (by kernel_rfl) (by kernel_rfl) (fun _ _ _ h => h) (by kernel_rfl) (by rfl) (by assumption) ?_ ?_
          rotate_left
          · intro w hSw; (try dsimp only at hSw); first | (go_simp; done) | (go_simp; with_reducible rfl)
          try simp only [Act.put, List.getElem_toArray, List.getElem_cons_zero, List.getElem_cons_succ, List.setIfInBounds_toArray, List.set_cons_zero, List.set_cons_succ]
          refine wpAnyH_tk (i := 7) (v := ?_) (LN := #[true, true, true, true, true, true, true, true, false]) rfl (by kernel_rfl) (by kernel_rfl) (by kernel_rfl) (fun _ _ _ h => h) (by kernel_rfl) (by rfl) (by assumption) ?_ ?_
          rotate_left
          · intro w hSw; (try dsimp only at hSw); first | (go_simp; done) | (go_simp; with_reducible rfl)
          try simp only [Act.put, List.getElem_toArray, List.getElem_cons_zero, List.getElem_cons_succ, List.setIfInBounds_toArray, List.set_cons_zero, List.set_cons_succ]
          refine wpAnyH_tk (i := 8) (v := ?_) (LN := #[true, true, true, true, true, true, true, true, true]) rfl (by kernel_rfl) (by kernel_rfl) (by kernel_rfl) (fun _ _ _ h => h) (by kernel_rfl) (by rfl) (by assumption) ?_ ?_
          rotate_left
          · intro w hSw; (try dsimp only at hSw); first | (go_simp; done) | (go_simp; with_reducible rfl)
          try simp only [Act.put, List.getElem_toArray, List.getElem_cons_zero, List.getElem_cons_succ, List.setIfInBounds_toArray, List.set_cons_zero, List.set_cons_succ]
          refine ⟨by kernel_rfl, ?_⟩
          try simp only [Act.put, List.getElem_toArray, List.getElem_cons_zero, List.getElem_cons_succ, List.setIfInBounds_toArray, List.set_cons_zero, List.set_cons_succ]
          clear hHeld p1 S10
          have n7 := S10d.cell 0 rfl 7
          have m7 := S10d.frozen 0 rfl 7
          simp only [lkc, List.getElem?_cons_zero, List.getElem?_cons_succ] at n7
          have U1 := S10d.setCell (k := 7) (v := .int .i64 (s1.vain + 1)) 0 rfl
          have SP : Sat W0 _ (PL g { s1 with vain := s1.vain + 1 } :: _) := PL_open.2 ⟨ra, rc, (brs_in rfl (U1.sel [1, 1]) : Sat W0 _ (brs ra s1.rows.length rc s1.rows :: _)).swap⟩
          rw [← HHA.out] at SP
          by_cases hqp : 0 < qn
          · have hdq : decide (0 < qn) = true := decide_eq_true hqp
            by_cases hz : out = []
            · have hR0 : R = (nr, [packP f.id 0 f.came []], { f with sent := f.sent + 1 }) := by rw [HRR.out, if_pos ⟨hqp, hz⟩]
              subst hR0 hnr
              have hI := HFOK.out.id
              have HI := Lib.hid hI
              have hfc := HFOK.out.i64 (by have := HN.out; omega)
              have HCI := Lib.hid hfc
              have hfs : 0 ≤ f.sent ∧ f.sent ≤ 1000000000000000 := ⟨HFOK.out.s0, by have := HFOK.out.sN; have := HN.out; omega⟩
              have HFS := Lib.hid hfs
              clear hI hfc hfs
              subst hz
              go_wp2_with (first
                | (go_at_call 29; refine (HFILL.out _ _ SP).mono ?_; unfold Outs; rintro e w8 ⟨oa, oc, rfl, S11⟩; have p1 := S11.cell 2 rfl 1; simp only [List.getElem?_cons_zero, List.getElem?_cons_succ] at p1; obtain ⟨fa, fc, S12⟩ := PL_open.1 S11.swap)
                | (go_at_call 31; refine (packet_any (S12 : Sat W0 _ (LK g f.id _ f.first (f.under : Int) f.came f.waited f.sent f.vain :: _)) 0 (r := []) (fun _ _ => Rd.nil _ _) rfl (fun x hx => by simp at hx) HI.out (by unfold I64; omega) HCI.out HFS.out (by simp) (wt := f.waited) (if_neg (by omega))).mono ?_; unfold Packed; rintro e w9 ⟨ka, kc, rfl, S13⟩; have S14 := S13.alloc [.slice ka (packP f.id 0 f.came []).length kc] 29; obtain ⟨ho, -, hol, S15⟩ := brs_out (S14.sel [4]))
                | (at_builtin; refine wpList_append_sat rfl (.tmp 111) (.tmp 114) _ rfl 29 i0 _ 1 24 Try.underlying25 hi hz0 hz1 hz2 rfl (by decide) S15 rfl rfl (Rd.lit (S14.block 0 rfl).1) (by rfl) (by simp [Value.oneCell']) (by unfold maxLen; simp) (by simp) ?_; intro ao16 cp16 w16 S16))
              go_ret2
              have T1 := brs_push (rs := []) rfl (S16.sel [0, 2, 0])
              have T2 := ((T1.sel [1]).tail.sel [1, 1])
              have T3 : Sat W0 _ (PL g { f with sent := f.sent + 1 } :: brs ao16 (0 + 1) cp16 ([] ++ [packP f.id 0 f.came []]) :: _) := PL_open.2 ⟨fa, fc, T2⟩
              exact ⟨none, 0, _, _, rfl, brs_none (((T3.swap).sel [2, 2]).tail.tail)⟩
            · have hR0 : R = (nr, out, f) := by rw [HRR.out, if_neg (fun x => hz x.2)]
              subst hR0 hnr
              have hzl : (((out.length : Nat) : Int) == 0) = false := by
                cases out with
                | nil => exact absurd rfl hz
                | cons x r => simp; omega
              clear hz
              go_wp2_with (first | (go_at_call 29; refine (HFILL.out _ _ SP).mono ?_; unfold Outs; rintro e w8 ⟨oa, oc, rfl, S11⟩; have p1 := S11.cell 2 rfl 1; simp only [List.getElem?_cons_zero, List.getElem?_cons_succ] at p1))
              go_ret2
              exact ⟨none, 0, _, _, rfl, brs_none (((S11).sel [2, 2]).tail.tail)⟩
          · have hdq : decide (0 < qn) = false := decide_eq_false hqp
            have hR0 : R = (nr, out, f) := by rw [HRR.out, if_neg (fun x => hqp x.1)]
            subst hR0 hnr
            go_wp2_with (first | (go_at_call 29; refine (HFILL.out _ _ SP).mono ?_; unfold Outs; rintro e w8 ⟨oa, oc, rfl, S11⟩; have p1 := S11.cell 2 rfl 1; simp only [List.getElem?_cons_zero, List.getElem?_cons_succ] at p1))
            go_ret2
            exact ⟨none, 0, _, _, rfl, brs_none (((S11).sel [2, 2]).tail.tail)⟩
      · have hd1 : decide ((0 : Int) < ((s1.under : Nat) : Int)) = true := decide_eq_true (by omega)
        have hd2 : decide (s1.first ≤ qa) = false := decide_eq_false (fun x => hco ⟨by omega, x⟩)
        have hd3 : 0 < s1.under := by omega
        clear h0
        refine wp_region_drawn (N := 14) (LN := #[false, false, false, false, false, false, false, false, false, false, false, false, false, false]) (by kernel_rfl) (by kernel_rfl) (by kernel_rfl) ?_
        generalize wr.drew = w5 at S10 ⊢
        refine wpAny_held (fun w' => w'.cell? ⟨g, 3, none⟩ = some (.int .i64 (s1.under : Int)) ∧ w'.cell? ⟨g, 2, none⟩ = some (.int .i64 s1.first) ∧ w'.cell? ⟨pp, 2, none⟩ = some (.int .i64 qa)) (HC.out _ _ _ S10) (fun hHeld => ?_)
        refine wpAnyH_tk (i := 0) (v := ?_) (LN := #[true, false, false, false, false, false, false, false, false, false, false, false, false, false]) rfl (by kernel_rfl) (by kernel_rfl) (by kernel_rfl) (fun _ _ _ h => h) (by kernel_rfl) (by rfl) (by assumption) ?_ ?_
        rotate_left
        · intro w hSw; (try dsimp only at hSw); first | (go_simp; done) | (go_simp; with_reducible rfl)
        try simp only [Act.put, List.getElem_toArray, List.getElem_cons_zero, List.getElem_cons_succ, List.setIfInBounds_toArray, List.set_cons_zero, List.set_cons_succ]
        refine wpAnyH_tk (i := 1) (v := ?_) (LN := #[true, true, false, false, false, false, false, false, false, false, false, false, false, false]) rfl (by kernel_rfl) (by kernel_rfl) (by kernel_rfl) (fun _ _ _ h => h) (by kernel_rfl) (by rfl) (by assumption) ?_ ?_
        rotate_left
        · intro w hSw; (try dsimp only at hSw); first | (go_simp; done) | (go_simp; with_reducible rfl)
        try simp only [Act.put, List.getElem_toArray, List.getElem_cons_zero, List.getElem_cons_succ, List.setIfInBounds_toArray, List.set_cons_zero, List.set_cons_succ]
        refine wpAnyH_tk (i := 2) (v := ?_) (LN := #[true, true, true, false, false, false, false, false, false, false, false, false, false, false]) rfl (by kernel_rfl) (by kernel_rfl) (by kernel_rfl) (fun _ _ _ h => h) (by kernel_rfl) (by rfl) (by assumption) ?_ ?_
        rotate_left
        · intro w hSw; (try dsimp only at hSw); first | (go_simp; done) | (go_simp; with_reducible rfl)
        try simp only [Act.put, List.getElem_toArray, List.getElem_cons_zero, List.getElem_cons_succ, List.setIfInBounds_toArray, List.set_cons_zero, List.set_cons_succ]
        refine wpAnyH_tk (i := 3) (v := ?_) (LN := #[true, true, true, true, false, false, false, false, false, false, false, false, false, false]) rfl (by kernel_rfl) (by kernel_rfl) (by kernel_rfl) (fun _ _ _ h => h) (by kernel_rfl) (by rfl) (by assumption) ?_ ?_
        rotate_left
        · intro w hSw; (try dsimp only at hSw); first | (go_simp; done) | (go_simp; with_reducible rfl)
        try simp only [Act.put, List.getElem_toArray, List.getElem_cons_zero, List.getElem_cons_succ, List.setIfInBounds_toArray, List.set_cons_zero, List.set_cons_succ]
        refine wpAnyH_tk (i := 4) (v := ?_) (LN := #[true, true, true, true, true, false, false, false, false, false, false, false, false, false]) rfl (by kernel_rfl) (by kernel_rfl) (by kernel_rfl) (fun _ _ _ h => h) (by kernel_rfl) (by rfl) (by assumption) ?_ ?_
        rotate_left
        · intro w hSw; (try dsimp only at hSw); first | (go_simp; done) | (go_simp; with_reducible rfl)
        try simp only [Act.put, List.getElem_toArray, List.getElem_cons_zero, List.getElem_cons_succ, List.setIfInBounds_toArray, List.set_cons_zero, List.set_cons_succ]
        refine wpAnyH_tk (i := 5) (v := ?_) (LN := #[true, true, true, true, true, true, false, false, false, false, false, false, false, false]) rfl (by kernel_rfl) (by kernel_rfl) (by kernel_rfl) (fun _ _ _ h => h) (by kernel_rfl) (by rfl) (by assumption) ?_ ?_
        rotate_left
        · intro w hSw; (try dsimp only at hSw); first | (go_simp; done) | (go_simp; with_reducible rfl)
        try simp only [Act.put, List.getElem_toArray, List.getElem_cons_zero, List.getElem_cons_succ, List.setIfInBounds_toArray, List.set_cons_zero, List.set_cons_succ]
        refine wpAnyH_tk (i := 6) (v := ?_) (LN := #[true, true, true, true, true, true, true, false, false, false, false, false, false, false]) rfl (by kernel_rfl) (by kernel_rfl) (by kernel_rfl) (fun _ _ _ h => h) (by kernel_rfl) (by rfl) (by assumption) ?_ ?_
        rotate_left
        · intro w hSw; (try dsimp only at hSw); first | (go_simp; done) | (go_simp; with_reducible rfl)
        try simp only [Act.put, List.getElem_toArray, List.getElem_cons_zero, List.getElem_cons_succ, List.setIfInBounds_toArray, List.set_cons_zero, List.set_cons_succ]
        refine wpAnyH_tk (i := 7) (v := ?_) (LN := #[true, true, true, true, true, true, true, true, false, false, false, false, false, false]) rfl (by kernel_rfl) (by kernel_rfl) (by kernel_rfl) (fun _ _ _ h => h) (by kernel_rfl) (by rfl) (by assumption) ?_ ?_
        rotate_left
        · intro w hSw; (try dsimp only at hSw); first | (go_simp; done) | (go_simp; with_reducible rfl)
        try simp only [Act.put, List.getElem_toArray, List.getElem_cons_zero, List.getElem_cons_succ, List.setIfInBounds_toArray, List.set_cons_zero, List.set_cons_succ]
        refine wpAnyH_tk (i := 8) (v := ?_) (LN := #[true, true, true, true, true, true, true, true, true, false, false, false, false, false]) rfl (by kernel_rfl) (by kernel_rfl) (by kernel_rfl) (fun _ _ _ h => h) (by kernel_rfl) (by rfl) (by assumption) ?_ ?_
        rotate_left
        · intro w hSw; (try dsimp only at hSw); first | (go_simp; done) | (go_simp; with_reducible rfl)
        try simp only [Act.put, List.getElem_toArray, List.getElem_cons_zero, List.getElem_cons_succ, List.setIfInBounds_toArray, List.set_cons_zero, List.set_cons_succ]
        refine wpAnyH_tk (i := 9) (v := ?_) (LN := #[true, true, true, true, true, true, true, true, true, true, false, false, false, false]) rfl (by kernel_rfl) (by kernel_rfl) (by kernel_rfl) (fun _ _ _ h => h) (by kernel_rfl) (by rfl) (by assumption) ?_ ?_
        rotate_left
        · intro w hSw; (try dsimp only at hSw); first | (go_simp; done) | (go_simp; with_reducible rfl)
        try simp only [Act.put, List.getElem_toArray, List.getElem_cons_zero, List.getElem_cons_succ, List.setIfInBounds_toArray, List.set_cons_zero, List.set_cons_succ]
        refine wpAnyH_tk (i := 10) (v := ?_) (LN := #[true, true, true, true, true, true, true, true, true, true, true, false, false, false]) rfl (by kernel_rfl) (by kernel_rfl) (by kernel_rfl) (fun _ _ _ h => h) (by kernel_rfl) (by rfl) (by assumption) ?_ ?_
        rotate_left
        · intro w hSw; (try dsimp only at hSw); first | (go_simp; done) | (go_simp; with_reducible rfl)
        try simp only [Act.put, List.getElem_toArray, List.getElem_cons_zero, List.getElem_cons_succ, List.setIfInBounds_toArray, List.set_cons_zero, List.set_cons_succ]
        refine wpAnyH_tk (i := 11) (v := ?_) (LN := #[true, true, true, true, true, true, true, true, true, true, true, true, false, false]) rfl (by kernel_rfl) (by kernel_rfl) (by kernel_rfl) (fun _ _ _ h => h) (by kernel_rfl) (by rfl) (by assumption) ?_ ?_
        rotate_left
        · intro w hSw; (try dsimp only at hSw); first | (go_simp; done) | (go_simp; with_reducible rfl)
        try simp only [Act.put, List.getElem_toArray, List.getElem_cons_zero, List.getElem_cons_succ, List.setIfInBounds_toArray, List.set_cons_zero, List.set_cons_succ]
        refine wpAnyH_tk (i := 12) (v := ?_) (LN := #[true, true, true, true, true, true, true, true, true, true, true, true, true, false]) rfl (by kernel_rfl) (by kernel_rfl) (by kernel_rfl) (fun _ _ _ h => h) (by kernel_rfl) (by rfl) (by assumption) ?_ ?_
        rotate_left
        · intro w hSw; (try dsimp only at hSw); first | (go_simp; done) | (go_simp; with_reducible rfl)
        try simp only [Act.put, List.getElem_toArray, List.getElem_cons_zero, List.getElem_cons_succ, List.setIfInBounds_toArray, List.set_cons_zero, List.set_cons_succ]
        refine wpAnyH_tk (i := 13) (v := ?_) (LN := #[true, true, true, true, true, true, true, true, true, true, true, true, true, true]) rfl (by kernel_rfl) (by kernel_rfl) (by kernel_rfl) (fun _ _ _ h => h) (by kernel_rfl) (by rfl) (by assumption) ?_ ?_
        rotate_left
        · intro w hSw; (try dsimp only at hSw); first | (go_simp; done) | (go_simp; with_reducible rfl)
        try simp only [Act.put, List.getElem_toArray, List.getElem_cons_zero, List.getElem_cons_succ, List.setIfInBounds_toArray, List.set_cons_zero, List.set_cons_succ]
        refine ⟨by kernel_rfl, ?_⟩
        try simp only [Act.put, List.getElem_toArray, List.getElem_cons_zero, List.getElem_cons_succ, List.setIfInBounds_toArray, List.set_cons_zero, List.set_cons_succ]
        clear hHeld hd1 hd2 hd3
        obtain ⟨i0, hi, hz0, hz1, hz2⟩ := info_parts Try.infoR
        have p1 := S10.cell 3 rfl 1
        simp only [List.getElem?_cons_zero, List.getElem?_cons_succ] at p1
        by_cases hq0 : qn = 0
        · subst hq0
          have et : t = s1 := by rw [← HT.out]; unfold gotP; dsimp only; rw [HS1.out, if_pos rfl]
          have hnr : nr = [] := by rw [← HNR.out, newRows_eq]; exact if_neg (fun x => x.1 rfl)
          clear HT HNR
          subst et
          have SP : Sat W0 w5 (PL g t :: _) := PL_open.2 ⟨ra, rc, (brs_in rfl (S10.sel [1, 1]) : Sat W0 w5 (brs ra t.rows.length rc t.rows :: _)).swap⟩
          have hR0 : R = (nr, out, f) := by rw [HRR.out, if_neg (fun x => absurd x.1 (by decide))]
          subst hR0 hnr
          go_wp2_with (first | (go_at_call 29; refine (HFILL.out _ _ SP).mono ?_; unfold Outs; rintro e w8 ⟨oa, oc, rfl, S11⟩; have p1 := S11.cell 2 rfl 1; simp only [List.getElem?_cons_zero, List.getElem?_cons_succ] at p1))
          go_ret2
          exact ⟨none, 0, _, _, rfl, brs_none (((S11).sel [2, 2]).tail.tail)⟩
        have hqz : (qn == 0) = false := by simpa using hq0
        have hca : s1.came = s.came := by rw [← HS1.out]; exact (ackP_id _ _).2.1
        by_cases hq1 : qn = s1.came + 1
        · have hqe : (qn == s1.came + 1) = true := by simpa using hq1
          have et : t = { s1 with came := s1.came + 1 } := by rw [← HT.out]; unfold gotP; dsimp only; rw [HS1.out, if_neg hq0, if_pos hq1]
          have hnr : nr = [qr] := by rw [← HNR.out, newRows_eq]; exact if_pos ⟨hq0, by rw [← hca]; exact hq1⟩
          have HHA : Hid (t = { s1 with came := s1.came + 1 }) := et
          clear et hca hq1 HT HNR hq0 hi1
          go_wp2_with fail
          refine wp_region_drawn (N := 9) (LN := #[false, false, false, false, false, false, false, false, false]) (by kernel_rfl) (by kernel_rfl) (by kernel_rfl) ?_
          have S10d := S10.drew
          generalize w5.drew = w6 at S10d ⊢
          refine wpAny_held (fun w' => w'.cell? ⟨pp, 1, none⟩ = some (.int .i64 qn) ∧ w'.cell? ⟨g, 4, none⟩ = some (.int .i64 s1.came)) ⟨(S10d.cell 3 rfl 1 : _), (S10d.cell 0 rfl 4 : _)⟩ (fun hHeld => ?_)
          refine wpAnyH_tk (i := 0) (v := ?_) (LN := #[true, false, false, false, false, false, false, false, false]) rfl (by kernel_rfl) (by kernel_rfl) (by kernel_rfl) (fun _ _ _ h => h) (by kernel_rfl) (by rfl) (by assumption) ?_ ?_
          rotate_left
          · intro w hSw; (try dsimp only at hSw); first | (go_simp; done) | (go_simp; with_reducible rfl)
          try simp only [Act.put, List.getElem_toArray, List.getElem_cons_zero, List.getElem_cons_succ, List.setIfInBounds_toArray, List.set_cons_zero, List.set_cons_succ]
          refine wpAnyH_tk (i := 1) (v := ?_) (LN := #[true, true, false, false, false, false, false, false, false]) rfl (by kernel_rfl) (by kernel_rfl) (by kernel_rfl) (fun _ _ _ h => h) (by kernel_rfl) (by rfl) (by assumption) ?_ ?_
          rotate_left
          · intro w hSw; (try dsimp only at hSw); first | (go_simp; done) | (go_simp; with_reducible rfl)
          try simp only [Act.put, List.getElem_toArray, List.getElem_cons_zero, List.getElem_cons_succ, List.setIfInBounds_toArray, List.set_cons_zero, List.set_cons_succ]
          refine wpAnyH_tk (i := 2) (v := ?_) (LN := #[true, true, true, false, false, false, false, false, false]) rfl (by kernel_rfl) (by kernel_rfl) (by kernel_rfl) (fun _ _ _ h => h) (by kernel_rfl) (by rfl) (by assumption) ?_ ?_
          rotate_left
          · intro w hSw; (try dsimp only at hSw); first | (go_simp; done) | (go_simp; with_reducible rfl)
          try simp only [Act.put, List.getElem_toArray, List.getElem_cons_zero, List.getElem_cons_succ, List.setIfInBounds_toArray, List.set_cons_zero, List.set_cons_succ]
          refine wpAnyH_tk (i := 3) (v := ?_) (LN := #[true, true, true, true, false, false, false, false, false]) rfl (by kernel_rfl) (by kernel_rfl) (by kernel_rfl) (fun _ _ _ h => h) (by kernel_rfl) (by rfl) (by assumption) ?_ ?_
          rotate_left
          · intro w hSw; (try dsimp only at hSw); first | (go_simp; done) | (go_simp; with_reducible rfl)
          try simp only [Act.put, List.getElem_toArray, List.getElem_cons_zero, List.getElem_cons_succ, List.setIfInBounds_toArray, List.set_cons_zero, List.set_cons_succ]
          refine wpAnyH_tk (i := 4) (v := ?_) (LN := #[true, true, true, true, true, false, false, false, false]) rfl (by kernel_rfl) (by kernel_rfl) (by kernel_rfl) (fun _ _ _ h => h) (by kernel_rfl) (by rfl) (by assumption) ?_ ?_
          rotate_left
          · intro w hSw; (try dsimp only at hSw); first | (go_simp; done) | (go_simp; with_reducible rfl)
          try simp only [Act.put, List.getElem_toArray, List.getElem_cons_zero, List.getElem_cons_succ, List.setIfInBounds_toArray, List.set_cons_zero, List.set_cons_succ]
          refine wpAnyH_tk (i := 5) (v := ?_) (LN := #[true, true, true, true, true, true, false, false, false]) rfl (by kernel_rfl) (by kernel_rfl) (by kernel_rfl) (fun _ _ _ h => h) (by kernel_rfl) (by rfl) (by assumption) ?_ ?_
          rotate_left
          · intro w hSw; (try dsimp only at hSw); first | (go_simp; done) | (go_simp; with_reducible rfl)
          try simp only [Act.put, List.getElem_toArray, List.getElem_cons_zero, List.getElem_cons_succ, List.setIfInBounds_toArray, List.set_cons_zero, List.set_cons_succ]
          refine wpAnyH_tk (i := 6) (v := ?_) (LN := #[true, true, true, true, true, true, true, false, false]) rfl (by kernel_rfl) (by kernel_rfl) (by kernel_rfl) (fun _ _ _ h => h) (by kernel_rfl) (by rfl) (by assumption) ?_ ?_
          rotate_left
          · intro w hSw; (try dsimp only at hSw); first | (go_simp; done) | (go_simp; with_reducible rfl)
          try simp only [Act.put, List.getElem_toArray, List.getElem_cons_zero, List.getElem_cons_succ, List.setIfInBounds_toArray, List.set_cons_zero, List.set_cons_succ]
          refine wpAnyH_tk (i := 7) (v := ?_) (LN := #[true, true, true, true, true, true, true, true, false]) rfl (by kernel_rfl) (by kernel_rfl) (by kernel_rfl) (fun _ _ _ h => h) (by kernel_rfl) (by rfl) (by assumption) ?_ ?_
          rotate_left
          · intro w hSw; (try dsimp only at hSw); first | (go_simp; done) | (go_simp; with_reducible rfl)
          try simp only [Act.put, List.getElem_toArray, List.getElem_cons_zero, List.getElem_cons_succ, List.setIfInBounds_toArray, List.set_cons_zero, List.set_cons_succ]
          refine wpAnyH_tk (i := 8) (v := ?_) (LN := #[true, true, true, true, true, true, true, true, true]) rfl (by kernel_rfl) (by kernel_rfl) (by kernel_rfl) (fun _ _ _ h => h) (by kernel_rfl) (by rfl) (by assumption) ?_ ?_
          rotate_left
          · intro w hSw; (try dsimp only at hSw); first | (go_simp; done) | (go_simp; with_reducible rfl)
          try simp only [Act.put, List.getElem_toArray, List.getElem_cons_zero, List.getElem_cons_succ, List.setIfInBounds_toArray, List.set_cons_zero, List.set_cons_succ]
          refine ⟨by kernel_rfl, ?_⟩
          try simp only [Act.put, List.getElem_toArray, List.getElem_cons_zero, List.getElem_cons_succ, List.setIfInBounds_toArray, List.set_cons_zero, List.set_cons_succ]
          clear hHeld p1 S10
          have n4 := S10d.cell 0 rfl 4
          have m4 := S10d.frozen 0 rfl 4
          have p3 := S10d.cell 3 rfl 3
          simp only [lkc, List.getElem?_cons_zero, List.getElem?_cons_succ] at p3 n4
          have U1 := S10d.setCell (k := 4) (v := .int .i64 (s1.came + 1)) 0 rfl
          have U2 := (Sat.own_none (e := 29) (size := 1) (n := 0) (cap := 0) (xs := [])).2 ⟨rfl, rfl, rfl, U1⟩
          have U3 := U2.alloc [.slice pa qr.length pc] 29
          simp only [World.size_setCell] at U3
          go_wp2_with (first
            | (at_builtin; refine wpList_append_sat rfl (.tmp 96) (.tmp 99) _ rfl 29 i0 _ 1 24 Try.underlying25 hi hz0 hz1 hz2 rfl (by decide) (U3.sel [1]) rfl rfl (Rd.lit (U3.block 0 rfl).1) (by rfl) (by simp [Value.oneCell']) (by unfold maxLen; simp) (by simp) ?_; intro ra9 rc9 w9 U4; have U5 := (U4.sel [0, 5]).emp.sel [1, 1]; have U6 := brs_push (hs := []) (rs := []) (r := qr) rfl U5; have U7 := brs_in rfl (U6.sel [3, 3]); have p1 := U7.cell 4 rfl 1; simp only [List.getElem?_cons_zero, List.getElem?_cons_succ] at p1; have SP : Sat W0 w9 (PL g { s1 with came := s1.came + 1 } :: _) := PL_open.2 ⟨ra, rc, U7.sel [3]⟩; rw [← HHA.out] at SP)
            | fail)
          by_cases hqp : 0 < qn
          · have hdq : decide (0 < qn) = true := decide_eq_true hqp
            by_cases hz : out = []
            · have hR0 : R = (nr, [packP f.id 0 f.came []], { f with sent := f.sent + 1 }) := by rw [HRR.out, if_pos ⟨hqp, hz⟩]
              subst hR0 hnr
              have hI := HFOK.out.id
              have HI := Lib.hid hI
              have hfc := HFOK.out.i64 (by have := HN.out; omega)
              have HCI := Lib.hid hfc
              have hfs : 0 ≤ f.sent ∧ f.sent ≤ 1000000000000000 := ⟨HFOK.out.s0, by have := HFOK.out.sN; have := HN.out; omega⟩
              have HFS := Lib.hid hfs
              clear hI hfc hfs
              subst hz
              go_wp2_with (first
                | (go_at_call 29; refine (HFILL.out _ _ SP).mono ?_; unfold Outs; rintro e w8 ⟨oa, oc, rfl, S11⟩; have p1 := S11.cell 4 rfl 1; simp only [List.getElem?_cons_zero, List.getElem?_cons_succ] at p1; obtain ⟨fa, fc, S12⟩ := PL_open.1 S11.swap)
                | (go_at_call 31; refine (packet_any (S12 : Sat W0 _ (LK g f.id _ f.first (f.under : Int) f.came f.waited f.sent f.vain :: _)) 0 (r := []) (fun _ _ => Rd.nil _ _) rfl (fun x hx => by simp at hx) HI.out (by unfold I64; omega) HCI.out HFS.out (by simp) (wt := f.waited) (if_neg (by omega))).mono ?_; unfold Packed; rintro e w9 ⟨ka, kc, rfl, S13⟩; have S14 := S13.alloc [.slice ka (packP f.id 0 f.came []).length kc] 29; obtain ⟨ho, -, hol, S15⟩ := brs_out (S14.sel [4]))
                | (at_builtin; refine wpList_append_sat rfl (.tmp 111) (.tmp 114) _ rfl 29 i0 _ 1 24 Try.underlying25 hi hz0 hz1 hz2 rfl (by decide) S15 rfl rfl (Rd.lit (S14.block 0 rfl).1) (by rfl) (by simp [Value.oneCell']) (by unfold maxLen; simp) (by simp) ?_; intro ao16 cp16 w16 S16))
              go_ret2
              have T1 := brs_push (rs := []) rfl (S16.sel [0, 2, 0])
              have T2 := ((T1.sel [1]).tail.sel [1, 1])
              have T3 : Sat W0 _ (PL g { f with sent := f.sent + 1 } :: brs ao16 (0 + 1) cp16 ([] ++ [packP f.id 0 f.came []]) :: _) := PL_open.2 ⟨fa, fc, T2⟩
              exact ⟨ra9, rc9, _, _, rfl, (((T3.swap).sel [3, 3]).tail.tail.sel [2] : Sat W0 _ (brs ra9 1 rc9 [qr] :: _))⟩
            · have hR0 : R = (nr, out, f) := by rw [HRR.out, if_neg (fun x => hz x.2)]
              subst hR0 hnr
              have hzl : (((out.length : Nat) : Int) == 0) = false := by
                cases out with
                | nil => exact absurd rfl hz
                | cons x r => simp; omega
              clear hz
              go_wp2_with (first | (go_at_call 29; refine (HFILL.out _ _ SP).mono ?_; unfold Outs; rintro e w8 ⟨oa, oc, rfl, S11⟩; have p1 := S11.cell 4 rfl 1; simp only [List.getElem?_cons_zero, List.getElem?_cons_succ] at p1))
              go_ret2
              exact ⟨ra9, rc9, _, _, rfl, (((S11).sel [3, 3]).tail.tail.sel [2] : Sat W0 _ (brs ra9 1 rc9 [qr] :: _))⟩
          · have hdq : decide (0 < qn) = false := decide_eq_false hqp
            have hR0 : R = (nr, out, f) := by rw [HRR.out, if_neg (fun x => hqp x.1)]
            subst hR0 hnr
            go_wp2_with (first | (go_at_call 29; refine (HFILL.out _ _ SP).mono ?_; unfold Outs; rintro e w8 ⟨oa, oc, rfl, S11⟩; have p1 := S11.cell 4 rfl 1; simp only [List.getElem?_cons_zero, List.getElem?_cons_succ] at p1))
            go_ret2
            exact ⟨ra9, rc9, _, _, rfl, (((S11).sel [3, 3]).tail.tail.sel [2] : Sat W0 _ (brs ra9 1 rc9 [qr] :: _))⟩
        · have hqe : (qn == s1.came + 1) = false := by simpa using hq1
          have et : t = { s1 with vain := s1.vain + 1 } := by rw [← HT.out]; unfold gotP; dsimp only; rw [HS1.out, if_neg hq0, if_neg hq1]
          have hnr : nr = [] := by rw [← HNR.out, newRows_eq]; exact if_neg (fun x => hq1 (by rw [hca]; exact x.2))
          have HHA : Hid (t = { s1 with vain := s1.vain + 1 }) := et
          clear et hca hq1 HT HNR hq0 hi1
          go_wp2_with fail
          refine wp_region_drawn (N := 9) (LN := #[false, false, false, false, false, false, false, false, false]) (by kernel_rfl) (by kernel_rfl) (by kernel_rfl) ?_
          have S10d := S10.drew
          generalize w5.drew = w6 at S10d ⊢
          refine wpAny_held (fun w' => w'.cell? ⟨pp, 1, none⟩ = some (.int .i64 qn) ∧ w'.cell? ⟨g, 4, none⟩ = some (.int .i64 s1.came)) ⟨(S10d.cell 3 rfl 1 : _), (S10d.cell 0 rfl 4 : _)⟩ (fun hHeld => ?_)
          refine wpAnyH_tk (i := 0) (v := ?_) (LN := #[true, false, false, false, false, false, false, false, false]) rfl (by kernel_rfl) (by kernel_rfl) (by kernel_rfl) (fun _ _ _ h => h) (by kernel_rfl) (by rfl) (by assumption) ?_ ?_
          rotate_left
          · intro w hSw; (try dsimp only at hSw); first | (go_simp; done) | (go_simp; with_reducible rfl)
          try simp only [Act.put, List.getElem_toArray, List.getElem_cons_zero, List.getElem_cons_succ, List.setIfInBounds_toArray, List.set_cons_zero, List.set_cons_succ]
          refine wpAnyH_tk (i := 1) (v := ?_) (LN := #[true, true, false, false, false, false, false, false, false]) rfl (by kernel_rfl) (by kernel_rfl) (by kernel_rfl) (fun _ _ _ h => h) (by kernel_rfl) (by rfl) (by assumption) ?_ ?_
          rotate_left
          · intro w hSw; (try dsimp only at hSw); first | (go_simp; done) | (go_simp; with_reducible rfl)
          try simp only [Act.put, List.getElem_toArray, List.getElem_cons_zero, List.getElem_cons_succ, List.setIfInBounds_toArray, List.set_cons_zero, List.set_cons_succ]
          refine wpAnyH_tk (i := 2) (v := ?_) (LN := #[true, true, true, false, false, false, false, false, false]) rfl (by kernel_rfl) (by kernel_rfl) (by kernel_rfl) (fun _ _ _ h => h) (by kernel_rfl) (by rfl) (by assumption) ?_ ?_
          rotate_left
          · intro w hSw; (try dsimp only at hSw); first | (go_simp; done) | (go_simp; with_reducible rfl)
          try simp only [Act.put, List.getElem_toArray, List.getElem_cons_zero, List.getElem_cons_succ, List.setIfInBounds_toArray, List.set_cons_zero, List.set_cons_succ]
          refine wpAnyH_tk (i := 3) (v := ?_) (LN := #[true, true, true, true, false, false, false, false, false]) rfl (by kernel_rfl) (by kernel_rfl) (by kernel_rfl) (fun _ _ _ h => h) (by kernel_rfl) (by rfl) (by assumption) ?_ ?_
          rotate_left
          · intro w hSw; (try dsimp only at hSw); first | (go_simp; done) | (go_simp; with_reducible rfl)
          try simp only [Act.put, List.getElem_toArray, List.getElem_cons_zero, List.getElem_cons_succ, List.setIfInBounds_toArray, List.set_cons_zero, List.set_cons_succ]
          refine wpAnyH_tk (i := 4) (v := ?_) (LN := #[true, true, true, true, true, false, false, false, false]) rfl (by kernel_rfl) (by kernel_rfl) (by kernel_rfl) (fun _ _ _ h => h) (by kernel_rfl) (by rfl) (by assumption) ?_ ?_
          rotate_left
          · intro w hSw; (try dsimp only at hSw); first | (go_simp; done) | (go_simp; with_reducible rfl)
          try simp only [Act.put, List.getElem_toArray, List.getElem_cons_zero, List.getElem_cons_succ, List.setIfInBounds_toArray, List.set_cons_zero, List.set_cons_succ]
          refine wpAnyH_tk (i := 5) (v := ?_) (LN := #[true, true, true, true, true, true, false, false, false]) rfl (by kernel_rfl) (by kernel_rfl) (by kernel_rfl) (fun _ _ _ h => h) (by kernel_rfl) (by rfl) (by assumption) ?_ ?_
          rotate_left
          · intro w hSw; (try dsimp only at hSw); first | (go_simp; done) | (go_simp; with_reducible rfl)
          try simp only [Act.put, List.getElem_toArray, List.getElem_cons_zero, List.getElem_cons_succ, List.setIfInBounds_toArray, List.set_cons_zero, List.set_cons_succ]
          refine wpAnyH_tk (i := 6) (v := ?_) (LN := #[true, true, true, true, true, true, true, false, false]) rfl (by kernel_rfl) (by kernel_rfl) (by kernel_rfl) (fun _ _ _ h => h) (by kernel_rfl) (by rfl) (by assumption) ?_ ?_
          rotate_left
          · intro w hSw; (try dsimp only at hSw); first | (go_simp; done) | (go_simp; with_reducible rfl)
          try simp only [Act.put, List.getElem_toArray, List.getElem_cons_zero, List.getElem_cons_succ, List.setIfInBounds_toArray, List.set_cons_zero, List.set_cons_succ]
          refine wpAnyH_tk (i := 7) (v := ?_) (LN := #[true, true, true, true, true, true, true, true, false]) rfl (by kernel_rfl) (by kernel_rfl) (by kernel_rfl) (fun _ _ _ h => h) (by kernel_rfl) (by rfl) (by assumption) ?_ ?_
          rotate_left
          · intro w hSw; (try dsimp only at hSw); first | (go_simp; done) | (go_simp; with_reducible rfl)
          try simp only [Act.put, List.getElem_toArray, List.getElem_cons_zero, List.getElem_cons_succ, List.setIfInBounds_toArray, List.set_cons_zero, List.set_cons_succ]
          refine wpAnyH_tk (i := 8) (v := ?_) (LN := #[true, true, true, true, true, true, true, true, true]) rfl (by kernel_rfl) (by kernel_rfl) (by kernel_rfl) (fun _ _ _ h => h) (by kernel_rfl) (by rfl) (by assumption) ?_ ?_
          rotate_left
          · intro w hSw; (try dsimp only at hSw); first | (go_simp; done) | (go_simp; with_reducible rfl)
          try simp only [Act.put, List.getElem_toArray, List.getElem_cons_zero, List.getElem_cons_succ, List.setIfInBounds_toArray, List.set_cons_zero, List.set_cons_succ]
          refine ⟨by kernel_rfl, ?_⟩
          try simp only [Act.put, List.getElem_toArray, List.getElem_cons_zero, List.getElem_cons_succ, List.setIfInBounds_toArray, List.set_cons_zero, List.set_cons_succ]
          clear hHeld p1 S10
          have n7 := S10d.cell 0 rfl 7
          have m7 := S10d.frozen 0 rfl 7
          simp only [lkc, List.getElem?_cons_zero, List.getElem?_cons_succ] at n7
          have U1 := S10d.setCell (k := 7) (v := .int .i64 (s1.vain + 1)) 0 rfl
          have SP : Sat W0 _ (PL g { s1 with vain := s1.vain + 1 } :: _) := PL_open.2 ⟨ra, rc, (brs_in rfl (U1.sel [1, 1]) : Sat W0 _ (brs ra s1.rows.length rc s1.rows :: _)).swap⟩
          rw [← HHA.out] at SP
          by_cases hqp : 0 < qn
          · have hdq : decide (0 < qn) = true := decide_eq_true hqp
            by_cases hz : out = []
            · have hR0 : R = (nr, [packP f.id 0 f.came []], { f with sent := f.sent + 1 }) := by rw [HRR.out, if_pos ⟨hqp, hz⟩]
              subst hR0 hnr
              have hI := HFOK.out.id
              have HI := Lib.hid hI
              have hfc := HFOK.out.i64 (by have := HN.out; omega)
              have HCI := Lib.hid hfc
              have hfs : 0 ≤ f.sent ∧ f.sent ≤ 1000000000000000 := ⟨HFOK.out.s0, by have := HFOK.out.sN; have := HN.out; omega⟩
              have HFS := Lib.hid hfs
              clear hI hfc hfs
              subst hz
              go_wp2_with (first
                | (go_at_call 29; refine (HFILL.out _ _ SP).mono ?_; unfold Outs; rintro e w8 ⟨oa, oc, rfl, S11⟩; have p1 := S11.cell 2 rfl 1; simp only [List.getElem?_cons_zero, List.getElem?_cons_succ] at p1; obtain ⟨fa, fc, S12⟩ := PL_open.1 S11.swap)
                | (go_at_call 31; refine (packet_any (S12 : Sat W0 _ (LK g f.id _ f.first (f.under : Int) f.came f.waited f.sent f.vain :: _)) 0 (r := []) (fun _ _ => Rd.nil _ _) rfl (fun x hx => by simp at hx) HI.out (by unfold I64; omega) HCI.out HFS.out (by simp) (wt := f.waited) (if_neg (by omega))).mono ?_; unfold Packed; rintro e w9 ⟨ka, kc, rfl, S13⟩; have S14 := S13.alloc [.slice ka (packP f.id 0 f.came []).length kc] 29; obtain ⟨ho, -, hol, S15⟩ := brs_out (S14.sel [4]))
                | (at_builtin; refine wpList_append_sat rfl (.tmp 111) (.tmp 114) _ rfl 29 i0 _ 1 24 Try.underlying25 hi hz0 hz1 hz2 rfl (by decide) S15 rfl rfl (Rd.lit (S14.block 0 rfl).1) (by rfl) (by simp [Value.oneCell']) (by unfold maxLen; simp) (by simp) ?_; intro ao16 cp16 w16 S16))
              go_ret2
              have T1 := brs_push (rs := []) rfl (S16.sel [0, 2, 0])
              have T2 := ((T1.sel [1]).tail.sel [1, 1])
              have T3 : Sat W0 _ (PL g { f with sent := f.sent + 1 } :: brs ao16 (0 + 1) cp16 ([] ++ [packP f.id 0 f.came []]) :: _) := PL_open.2 ⟨fa, fc, T2⟩
              exact ⟨none, 0, _, _, rfl, brs_none (((T3.swap).sel [2, 2]).tail.tail)⟩
            · have hR0 : R = (nr, out, f) := by rw [HRR.out, if_neg (fun x => hz x.2)]
              subst hR0 hnr
              have hzl : (((out.length : Nat) : Int) == 0) = false := by
                cases out with
                | nil => exact absurd rfl hz
                | cons x r => simp; omega
              clear hz
              go_wp2_with (first | (go_at_call 29; refine (HFILL.out _ _ SP).mono ?_; unfold Outs; rintro e w8 ⟨oa, oc, rfl, S11⟩; have p1 := S11.cell 2 rfl 1; simp only [List.getElem?_cons_zero, List.getElem?_cons_succ] at p1))
              go_ret2
              exact ⟨none, 0, _, _, rfl, brs_none (((S11).sel [2, 2]).tail.tail)⟩
          · have hdq : decide (0 < qn) = false := decide_eq_false hqp
            have hR0 : R = (nr, out, f) := by rw [HRR.out, if_neg (fun x => hqp x.1)]
            subst hR0 hnr
            go_wp2_with (first | (go_at_call 29; refine (HFILL.out _ _ SP).mono ?_; unfold Outs; rintro e w8 ⟨oa, oc, rfl, S11⟩; have p1 := S11.cell 2 rfl 1; simp only [List.getElem?_cons_zero, List.getElem?_cons_succ] at p1))
            go_ret2
            exact ⟨none, 0, _, _, rfl, brs_none (((S11).sel [2, 2]).tail.tail)⟩
end Go.Proofs.Ytdgalljalcediaa
