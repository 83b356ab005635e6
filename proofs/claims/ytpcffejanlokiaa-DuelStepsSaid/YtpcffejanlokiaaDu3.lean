/-
  duel: Play, States, Result.
-/
import Derived.Test.YtpcffejanlokiaaDu2
namespace Go.Proofs.Ytpcffejanlokiaa
open Go.RowKit Go.Sep Go.Vm
set_option linter.unusedSimpArgs false

def playP (code : List (Int × Int)) (cap fuel seed : Int) (ps : List (Int × Int)) : VS × Int :=
  if checkP code cap fuel = 0 then (lastP (VS.start seed) (framesP code cap fuel (VS.start seed) ps), 0) else (VS.zero, checkP code cap fuel)
def statesP (code : List (Int × Int)) (cap fuel seed : Int) (ps : List (Int × Int)) : List VS :=
  if checkP code cap fuel = 0 then VS.start seed :: framesP code cap fuel (VS.start seed) ps else []
theorem lastP_cons (z s : VS) (l : List VS) : lastP z (s :: l) = lastP s l := by
  unfold lastP
  rw [List.getLast_cons (by simp)]

theorem framesP_goes {code : List (Int × Int)} {cap fuel : Int} (hk : checkP code cap fuel = 0) : ∀ (ps : List (Int × Int)) (s : VS), Goes cap s → (∀ x ∈ ps, (0 ≤ x.1 ∧ x.1 < 65536) ∧ (0 ≤ x.2 ∧ x.2 < 65536)) → ∀ t ∈ framesP code cap fuel s ps, Goes cap t
  | [], _, _, _ => by simp [framesP]
  | x :: l, s, hs, hp => by
    intro t ht
    unfold framesP at ht
    cases ho : s.over with
    | true => rw [if_pos ho] at ht; simp at ht
    | false =>
      rw [if_neg (by rw [ho]; simp)] at ht
      have hx := hp x (by simp)
      obtain ⟨u, hu, hg, _⟩ := goes_step hk hs ho hx.1 hx.2
      rw [hu] at ht
      rcases List.mem_cons.1 ht with rfl | ht
      · exact hg
      · exact framesP_goes hk l u hg (fun y hy => hp y (by simp [hy])) t ht
theorem framesP_ok {code : List (Int × Int)} {cap fuel seed : Int} {ps : List (Int × Int)} (hk : checkP code cap fuel = 0) (hsd : 0 ≤ seed ∧ seed < 4294967296) (hp : ∀ x ∈ ps, (0 ≤ x.1 ∧ x.1 < 65536) ∧ (0 ≤ x.2 ∧ x.2 < 65536)) :
    ∀ t ∈ VS.start seed :: framesP code cap fuel (VS.start seed) ps, t.Ok := by
  intro t ht
  rcases List.mem_cons.1 ht with rfl | ht
  · exact start_ok hsd
  · exact (framesP_goes hk ps _ (goes_start hk hsd) hp t ht).ok

theorem ent_play : Ent 24 := by
  unfold Ent
  intro args w
  simp [go_sem]
theorem ent_states : Ent 27 := by
  unfold Ent
  intro args w
  simp [go_sem]

set_option maxRecDepth 100000 in
set_option maxHeartbeats 1600000 in
theorem play_any {W0 w : World} {L : List Asn} (S : Sat W0 w L) {a : Option Addr} {n c : Nat} {code : List (Int × Int)} (hR : ∀ w', Sat W0 w' L → Rd w' a (insv code)) (hn : code.length = n) (hnm : n ≤ maxLen)
    (cap fuel : Int) (seed : Int) (hsd : 0 ≤ seed ∧ seed < 4294967296) {b : Option Addr} {m d : Nat} {ps : List (Int × Int)} (hRb : ∀ w', Sat W0 w' L → Rd w' b (pairsv ps)) (hm : ps.length = m) (hm9 : m ≤ 900)
    (hpb : ∀ x ∈ ps, (0 ≤ x.1 ∧ x.1 < 65536) ∧ (0 ≤ x.2 ∧ x.2 < 65536)) :
    Calls Try.prog 11 #[.agg #[.slice a n c, .int .i64 cap, .int .i64 fuel], .int .u32 seed, .slice b m d] w (Stepped W0 L (playP code cap fuel seed ps)) := by
  have S1 := S.alloc [.slice a n c, .int .i64 cap, .int .i64 fuel] 24
  have S2 := (S1.alloc (svals VS.zero) 31).alloc (svals VS.zero) 31
  simp only [World.size_alloc] at S2
  by_cases hk : checkP code cap fuel = 0
  · have hP : playP code cap fuel seed ps = (lastP (VS.start seed) (framesP code cap fuel (VS.start seed) ps), 0) := by unfold playP; rw [if_pos hk]
    rw [hP]
    have S3 := (Sat.pure (p := ∀ s ∈ ([] : List VS), s.Ok)).2 ⟨by simp, S2⟩
    have hQ := framesP_ok (ps := ps) hk hsd hpb
    obtain ⟨l, hl⟩ : ∃ l, VS.start seed :: framesP code cap fuel (VS.start seed) ps = l := ⟨_, rfl⟩
    have hlast : lastP (VS.start seed) (framesP code cap fuel (VS.start seed) ps) = lastP VS.zero l := by rw [← hl, lastP_cons]
    rw [hl] at hQ
    rw [hlast]
    have HF := Lib.hid (fold_ok ent_play (playTell W0 (w.heap.size + 1 + 1)) S3 (fun w' h => hR w' h.tail.tail) hn hnm cap fuel hk seed hsd (c := c) (d := d) (fun w' h => hRb w' h.tail.tail) hm hm9 hpb)
    rw [hl] at HF
    have HLL := Lib.hid (svals_length (lastP_len hQ))
    obtain ⟨x, hx⟩ : ∃ x, lastP VS.zero l = x := ⟨_, rfl⟩
    have HX := Lib.hid hx
    rw [hx] at HLL ⊢
    clear hk hP hlast hQ hl hx
    go_enter Try.func11, Try.ntmps11
    go_wp2_with (first
      | (go_at_call 22; refine HF.out.mono ?_; unfold Folded; rintro e w3 ⟨rfl, S4⟩; have S5 := (Sat.pure.1 S4).2; rw [HX.out] at S5)
      | (refine wpList_load_part rfl 31 _ rfl (n := 20) rfl (Sat.whole S5 20) HLL.out Try.underlying31 rfl Try.sizeS ?_)
      | (refine wpList_store_sat (off := 0) (n := 20) rfl 31 _ _ rfl (S5.sel [1]) rfl rfl HLL.out (by decide) Try.sizeS (svals_one x) ?_; intro w4 S6; rw [sstore (by rfl)] at S6))
    exact bodyPost_ret (results_cell_tmp_sat rfl _ S6 rfl Try.underlying31 rfl (by rw [HLL.out]; exact Try.sizeS) rfl) rfl ⟨rfl, S6.tail.tail.tail⟩
  · have hP : playP code cap fuel seed ps = (VS.zero, checkP code cap fuel) := by unfold playP; rw [if_neg hk]
    rw [hP]
    obtain ⟨ck, hck⟩ : ∃ ck, checkP code cap fuel = ck := ⟨_, rfl⟩
    rw [hck] at hk ⊢
    have HF := Lib.hid (fold_bad S2 (.func (.func 23) #[] #[]) (c := c) (fun w' h => hR w' h.tail.tail.tail) hn hnm cap fuel hck hk seed (.slice b m d) (.func (.func 24) #[] #[.pointer (some ⟨w.heap.size + 1 + 1, 0, none⟩)]))
    clear hk hP hck
    go_enter Try.func11, Try.ntmps11
    go_wp2_with (first
      | (go_at_call 22; refine HF.out.mono ?_; rintro e w3 ⟨rfl, S5⟩)
      | (refine wpList_load_part rfl 31 _ rfl (n := 20) rfl (Sat.whole S5 20) (by rfl) Try.underlying31 rfl Try.sizeS ?_)
      | (refine wpList_store_sat (off := 0) (n := 20) rfl 31 _ _ rfl (S5.sel [1]) rfl rfl (by rfl) (by decide) Try.sizeS (svals_one VS.zero) ?_; intro w4 S6; rw [sstore (by rfl)] at S6))
    exact bodyPost_ret (results_cell_tmp_sat rfl _ S6 rfl Try.underlying31 rfl Try.sizeS rfl) rfl ⟨rfl, S6.tail.tail.tail⟩

def StatesPost (W0 : World) (L : List Asn) (l : List VS) (er : Int) (e : Ending) (w' : World) : Prop := ∃ ao cap, e = .returned (.tuple #[.slice ao l.length cap, .int .i64 er]) ∧ Sat W0 w' (sst ao l.length cap l :: L)

set_option maxRecDepth 100000 in
set_option maxHeartbeats 1600000 in
theorem states_any {W0 w : World} {L : List Asn} (S : Sat W0 w L) {a : Option Addr} {n c : Nat} {code : List (Int × Int)} (hR : ∀ w', Sat W0 w' L → Rd w' a (insv code)) (hn : code.length = n) (hnm : n ≤ maxLen)
    (cap fuel : Int) (seed : Int) (hsd : 0 ≤ seed ∧ seed < 4294967296) {b : Option Addr} {m d : Nat} {ps : List (Int × Int)} (hRb : ∀ w', Sat W0 w' L → Rd w' b (pairsv ps)) (hm : ps.length = m) (hm9 : m ≤ 900)
    (hpb : ∀ x ∈ ps, (0 ≤ x.1 ∧ x.1 < 65536) ∧ (0 ≤ x.2 ∧ x.2 < 65536)) :
    Calls Try.prog 18 #[.agg #[.slice a n c, .int .i64 cap, .int .i64 fuel], .int .u32 seed, .slice b m d] w (StatesPost W0 L (statesP code cap fuel seed ps) (checkP code cap fuel)) := by
  have S1 := S.alloc [.slice a n c, .int .i64 cap, .int .i64 fuel] 24
  have S2 := (S1.alloc [.slice none 0 0] 49)
  simp only [World.size_alloc] at S2
  by_cases hk : checkP code cap fuel = 0
  · have hP : statesP code cap fuel seed ps = VS.start seed :: framesP code cap fuel (VS.start seed) ps := by unfold statesP; rw [if_pos hk]
    rw [hP, hk]
    have S3 := (TS_open (q := w.heap.size + 1) (l := [])).2 ⟨none, 0, by simp, (Sat.own_none (e := 31) (size := 20).2 ⟨rfl, rfl, rfl, S2⟩).swap⟩
    obtain ⟨l, hl⟩ : ∃ l, VS.start seed :: framesP code cap fuel (VS.start seed) ps = l := ⟨_, rfl⟩
    have HF := Lib.hid (fold_ok ent_states (statesTell W0 (w.heap.size + 1)) S3 (fun w' h => hR w' h.tail) hn hnm cap fuel hk seed hsd (c := c) (d := d) (fun w' h => hRb w' h.tail) hm hm9 hpb)
    rw [hl] at HF ⊢
    clear hk hP hl
    go_enter Try.func18, Try.ntmps18
    go_wp2_with (first
      | (go_at_call 22; refine HF.out.mono ?_; unfold Folded; rintro e w3 ⟨rfl, S4⟩; obtain ⟨ao, cp, ho, S5⟩ := TS_open.1 S4; have c5 := S5.cell 0 rfl 0; simp only [List.getElem?_cons_zero] at c5))
    go_ret2
    exact ⟨ao, cp, rfl, S5.tail.swap.tail⟩
  · have hP : statesP code cap fuel seed ps = [] := by unfold statesP; rw [if_neg hk]
    rw [hP]
    obtain ⟨ck, hck⟩ : ∃ ck, checkP code cap fuel = ck := ⟨_, rfl⟩
    rw [hck] at hk ⊢
    have HF := Lib.hid (fold_bad S2 (.func (.func 23) #[] #[]) (c := c) (fun w' h => hR w' h.tail.tail) hn hnm cap fuel hck hk seed (.slice b m d) (.func (.func 27) #[] #[.pointer (some ⟨w.heap.size + 1, 0, none⟩)]))
    clear hk hP hck
    go_enter Try.func18, Try.ntmps18
    go_wp2_with (first
      | (go_at_call 22; refine HF.out.mono ?_; rintro e w3 ⟨rfl, S5⟩; have c5 := S5.cell 0 rfl 0; simp only [List.getElem?_cons_zero] at c5))
    go_ret2
    exact ⟨none, 0, rfl, Sat.own_none.2 ⟨rfl, rfl, rfl, S5.tail.tail⟩⟩

def resultP (s : VS) (cap : Int) : Int × Int × Bool :=
  if s.over = false then (0, 0, false) else (if s.winner = 2 then 0 else s.winner, if s.frame = cap then 2 else 1, true)

def ResPost (W0 : World) (L : List Asn) (r : Int × Int × Bool) (e : Ending) (w' : World) : Prop := e = .returned (.tuple #[.int .i64 r.1, .int .i64 r.2.1, .bool r.2.2]) ∧ Sat W0 w' L

set_option maxRecDepth 100000 in
set_option maxHeartbeats 1600000 in
theorem result_any {W0 w : World} {L : List Asn} (S : Sat W0 w L) {s : VS} (hs : s.Ok) (a : Option Addr) (n c : Nat) (cap fuel : Int) :
    Calls Try.prog 14 #[.agg (svals s).toArray, .agg #[.slice a n c, .int .i64 cap, .int .i64 fuel]] w (ResPost W0 L (resultP s cap)) := by
  have S1 := (S.alloc (svals s) 31).alloc [.slice a n c, .int .i64 cap, .int .i64 fuel] 24
  simp only [World.size_alloc] at S1
  have hst := st_at hs.len S1.tail
  have h18 := hst.over
  have h19 := hst.winner
  have h0 := hst.frame
  have hg := gat S1
  have HS := Lib.hid S1.tail.tail
  obtain ⟨r, hr⟩ : ∃ r, resultP s cap = r := ⟨_, rfl⟩
  have hr' := hr
  rw [hr]
  have HR := Lib.hid hr
  clear hst hs S S1 hr
  unfold resultP at hr'
  obtain ⟨x, hx⟩ : ∃ x, svals s = x := ⟨_, rfl⟩
  rw [hx] at h18 h19 h0 hg HS ⊢
  clear HR hx
  obtain ⟨sf, sc, ss, so, sw⟩ := s
  simp only at h18 h19 h0 hr'
  have fin : Hid (∀ r2 w2, Sat W0 w2 L → r2 = r → ResPost W0 L r (.returned (.tuple #[.int .i64 r2.1, .int .i64 r2.2.1, .bool r2.2.2])) w2) := fun r2 w2 h e => e ▸ ⟨rfl, h⟩
  cases so with
  | false =>
    rw [if_pos rfl] at hr'
    have HR := Lib.hid hr'
    clear hr'
    go_enter Try.func14, Try.ntmps14
    go_wp2_with fail
    go_ret3
    exact fin.out (0, 0, false) _ HS.out HR.out
  | true =>
    rw [if_neg (by simp)] at hr'
    have HR := Lib.hid hr'
    clear hr'
    by_cases hw : sw = 2
    · subst hw
      by_cases hf : sf = cap
      · subst hf
        go_enter Try.func14, Try.ntmps14
        go_wp2_with fail
        go_ret3
        exact fin.out (0, 2, true) _ HS.out (by rw [← HR.out]; simp)
      · have hf' : (sf == cap) = false := by simpa using hf
        have HF := Lib.hid hf
        clear hf
        go_enter Try.func14, Try.ntmps14
        go_wp2_with fail
        go_ret3
        exact fin.out (0, 1, true) _ HS.out (by rw [← HR.out]; simp [HF.out])
    · have hw' : (sw == 2) = false := by simpa using hw
      have HW := Lib.hid hw
      clear hw
      by_cases hf : sf = cap
      · subst hf
        go_enter Try.func14, Try.ntmps14
        go_wp2_with fail
        go_ret3
        exact fin.out (sw, 2, true) _ HS.out (by rw [← HR.out]; simp [HW.out])
      · have hf' : (sf == cap) = false := by simpa using hf
        have HF := Lib.hid hf
        clear hf
        go_enter Try.func14, Try.ntmps14
        go_wp2_with fail
        go_ret3
        exact fin.out (sw, 1, true) _ HS.out (by rw [← HR.out]; simp [HW.out, HF.out])

set_option maxRecDepth 100000 in
set_option maxHeartbeats 1600000 in
theorem r11result_any {W0 w : World} {L : List Asn} (S : Sat W0 w L) {s : VS} (hs : s.Ok) (a : Option Addr) (n c : Nat) (cap fuel : Int) :
    Calls Try.prog 15 #[.agg (svals s).toArray, .agg #[.slice a n c, .int .i64 cap, .int .i64 fuel]] w (ResPost W0 L (resultP s cap)) := by
  have S1 := (S.alloc (svals s) 31).alloc [.slice a n c, .int .i64 cap, .int .i64 fuel] 24
  simp only [World.size_alloc] at S1
  have hst := st_at hs.len S1.tail
  have h18 := hst.over
  have h19 := hst.winner
  have h0 := hst.frame
  have hg := gat S1
  have HS := Lib.hid S1.tail.tail
  obtain ⟨r, hr⟩ : ∃ r, resultP s cap = r := ⟨_, rfl⟩
  have hr' := hr
  rw [hr]
  have HR := Lib.hid hr
  clear hst hs S S1 hr
  unfold resultP at hr'
  obtain ⟨x, hx⟩ : ∃ x, svals s = x := ⟨_, rfl⟩
  rw [hx] at h18 h19 h0 hg HS ⊢
  clear HR hx
  obtain ⟨sf, sc, ss, so, sw⟩ := s
  simp only at h18 h19 h0 hr'
  have fin : Hid (∀ r2 w2, Sat W0 w2 L → r2 = r → ResPost W0 L r (.returned (.tuple #[.int .i64 r2.1, .int .i64 r2.2.1, .bool r2.2.2])) w2) := fun r2 w2 h e => e ▸ ⟨rfl, h⟩
  cases so with
  | false =>
    rw [if_pos rfl] at hr'
    have HR := Lib.hid hr'
    clear hr'
    go_enter Try.func15, Try.ntmps15
    go_wp2_with fail
    go_ret3
    exact fin.out (0, 0, false) _ HS.out HR.out
  | true =>
    rw [if_neg (by simp)] at hr'
    have HR := Lib.hid hr'
    clear hr'
    by_cases hw : sw = 2
    · subst hw
      by_cases hf : sf = cap
      · subst hf
        go_enter Try.func15, Try.ntmps15
        go_wp2_with fail
        go_ret3
        exact fin.out (0, 2, true) _ HS.out (by rw [← HR.out]; simp)
      · have hf' : (sf == cap) = false := by simpa using hf
        have HF := Lib.hid hf
        clear hf
        go_enter Try.func15, Try.ntmps15
        go_wp2_with fail
        go_ret3
        exact fin.out (0, 1, true) _ HS.out (by rw [← HR.out]; simp [HF.out])
    · have hw' : (sw == 2) = false := by simpa using hw
      have HW := Lib.hid hw
      clear hw
      by_cases hf : sf = cap
      · subst hf
        go_enter Try.func15, Try.ntmps15
        go_wp2_with fail
        go_ret3
        exact fin.out (sw, 2, true) _ HS.out (by rw [← HR.out]; simp [HW.out])
      · have hf' : (sf == cap) = false := by simpa using hf
        have HF := Lib.hid hf
        clear hf
        go_enter Try.func15, Try.ntmps15
        go_wp2_with fail
        go_ret3
        exact fin.out (sw, 1, true) _ HS.out (by rw [← HR.out]; simp [HW.out, HF.out])
end Go.Proofs.Ytpcffejanlokiaa
