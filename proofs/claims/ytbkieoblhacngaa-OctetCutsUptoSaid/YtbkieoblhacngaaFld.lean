/-
  octet: a field of the laws, as cells; how heavy a row of them is.
-/
import Derived.Test.YtbkieoblhacngaaArgs
import Derived.Test.YtbkieoblhacngaaOct1
namespace Go.Proofs.Ytbkieoblhacngaa
open Go.RowKit Go.Sep Go.Oct

structure Fd where
  kind : Int
  n : Int
  ao : Option Addr
  len : Nat
  cap : Nat
  bs : List Int
  h : List Int

def fcells (f : Fd) : List Value := .int .i64 f.kind :: .int .i64 f.n :: .slice f.ao f.len f.cap :: bv f.h
/-- rows of fields, as cells -/
def fvs (l : List Fd) : List Value := (l.map fcells).flatten

structure Good (w : World) (f : Fd) : Prop where
  kind : -9223372036854775808 ≤ f.kind ∧ f.kind < 9223372036854775808
  n : -9223372036854775808 ≤ f.n ∧ f.n < 9223372036854775808
  h : f.h.length = 32
  hb : Bytes f.h
  rd : Rd w f.ao (bv f.bs)
  len : f.bs.length = f.len
  bb : Bytes f.bs
  cap : f.len ≤ f.cap ∧ f.cap ≤ maxLen
  nil : f.ao = none → f.cap = 0
  reach : f.len ≤ 140737488355328

theorem Good.below {W0 w : World} {f : Fd} (g : Good W0 f) (h : Below W0.heap.size W0 w) : Good w f := { g with rd := g.rd.below h }
theorem Good.keep {w w' : World} {f : Fd} (g : Good w f) (h : ∀ k, k < w.heap.size → w'.heap[k]? = w.heap[k]?) : Good w' f := { g with rd := g.rd.grow h }

theorem fcells_length {w : World} {f : Fd} (g : Good w f) : (fcells f).length = 35 := by simp [fcells, bv, g.h]

abbrev FieldK : Kd (Int × Int × Sl Int × List Int) := Kd.pair (Kd.int .i64) (Kd.pair (Kd.int .i64) (Kd.pair (Kd.sl (Kd.int .u8)) (Kd.arr 32 (Kd.int .u8))))

theorem bytes_flat {w : World} : ∀ {els : List (List Value)} {xs : List Int}, Each ((Kd.int .u8).R w) els xs → els.flatten = bv xs ∧ Bytes xs
  | [], [], _ => ⟨rfl, fun x hx => by simp at hx⟩
  | [], x :: r, h => by have := h.1; simp at this
  | c :: s, [], h => by have := h.1; simp at this
  | c :: s, x :: r, h => by
    obtain ⟨rfl, hw⟩ := h.2 0 c x rfl rfl
    obtain ⟨h1, h2⟩ := bytes_flat (els := s) (xs := r) ⟨by have := h.1; simpa using this, fun i c x hc hx => h.2 (i + 1) c x hc hx⟩
    refine ⟨by rw [List.flatten_cons, h1]; rfl, ?_⟩
    intro y hy
    rcases List.mem_cons.1 hy with rfl | hy
    · simp [Lit.wf, IntKind.min, IntKind.max, IntKind.signed, IntKind.bits] at hw
      omega
    · exact h2 y hy
theorem i64_wf {n : Int} (h : (Lit.int .i64 n).wf = true) : -9223372036854775808 ≤ n ∧ n < 9223372036854775808 := by
  simp [Lit.wf, IntKind.min, IntKind.max, IntKind.signed, IntKind.bits] at h
  omega

theorem field_of {w : World} {c : List Value} {x : Int × Int × Sl Int × List Int} (h : FieldK.R w c x) : ∃ f : Fd, c = fcells f ∧ Good w f := by
  obtain ⟨k, n, s, hh⟩ := x
  obtain ⟨_, _, rfl, ⟨rfl, hk⟩, _, _, rfl, ⟨rfl, hn⟩, _, _, rfl, ⟨rfl, s1, s2, s3, s4, s5, s6, s7⟩, h1, els, rfl, h2⟩ := h
  obtain ⟨e1, e2⟩ := bytes_flat h2
  obtain ⟨e3, e4⟩ := bytes_flat s3
  refine ⟨⟨k, n, s.ao, s.len, s.cap, s.xs, hh⟩, by rw [e1]; rfl, ⟨i64_wf hk, i64_wf hn, h1, e2, by rw [← e3]; exact s2, s1, e4, ⟨s4, s5⟩, s6, Nat.le_trans s7 (by unfold reachBytes; omega)⟩⟩

theorem fields_of {w : World} : ∀ {els : List (List Value)} {xs : List (Int × Int × Sl Int × List Int)}, Each (FieldK.R w) els xs → ∃ fs : List Fd, els.flatten = fvs fs ∧ fs.length = xs.length ∧ ∀ f ∈ fs, Good w f
  | [], [], _ => ⟨[], rfl, rfl, fun f hf => by simp at hf⟩
  | [], x :: r, h => by have := h.1; simp at this
  | c :: s, [], h => by have := h.1; simp at this
  | c :: s, x :: r, h => by
    obtain ⟨f, rfl, hf⟩ := field_of (h.2 0 c x rfl rfl)
    obtain ⟨fs, h1, h2, h3⟩ := fields_of (els := s) (xs := r) ⟨by have := h.1; simpa using this, fun i c x hc hx => h.2 (i + 1) c x hc hx⟩
    refine ⟨f :: fs, by rw [List.flatten_cons, h1]; rfl, by simp [h2], ?_⟩
    intro g hg
    rcases List.mem_cons.1 hg with rfl | hg
    · exact hf
    · exact h3 g hg

theorem fields_rd {w : World} {s : Sl (Int × Int × Sl Int × List Int)} {c : List Value} (h : (Kd.sl FieldK).R w c s) : ∃ fs : List Fd, Rd w s.ao (fvs fs) ∧ fs.length = s.len ∧ ∀ f ∈ fs, Good w f := by
  obtain ⟨fs, h1, h2, h3⟩ := fields_of h.2.2.2.1
  exact ⟨fs, by rw [← h1]; exact h.2.2.1, by rw [h2, h.2.1], h3⟩

theorem fvs_at : ∀ {l : List Fd} {w : World} {k : Nat} {f : Fd} {j : Nat}, (∀ f ∈ l, Good w f) → l[k]? = some f → j < 35 → (fvs l)[k * 35 + j]? = (fcells f)[j]?
  | [], _, k, f, j, _, h, _ => by simp at h
  | g :: r, w, 0, f, j, hg, h, hj => by
    simp at h
    subst h
    have := fcells_length (hg g (by simp))
    rw [Nat.zero_mul, Nat.zero_add]
    show (fcells g ++ fvs r)[j]? = _
    rw [List.getElem?_append_left (by omega)]
  | g :: r, w, k + 1, f, j, hg, h, hj => by
    have := fcells_length (hg g (by simp))
    have ih := fvs_at (l := r) (w := w) (k := k) (f := f) (j := j) (fun f hf => hg f (by simp [hf])) (by simpa using h) hj
    show (fcells g ++ fvs r)[(k + 1) * 35 + j]? = _
    rw [List.getElem?_append_right (by omega), show (k + 1) * 35 + j - (fcells g).length = k * 35 + j by omega]
    exact ih

theorem fvs_cells {w : World} {a : Option Addr} {l : List Fd} (h : Rd w a (fvs l)) (hg : ∀ f ∈ l, Good w f) {k : Nat} {f : Fd} (hk : l[k]? = some f) : ∃ b off, a = some ⟨b, off, none⟩ ∧
    (∀ j, j < 35 → w.cell? ⟨b, off + k * 35 + j, none⟩ = (fcells f)[j]?) := by
  have h0 := fvs_at (j := 0) hg hk (by omega)
  obtain ⟨b, off, rfl, c1⟩ := h (k * 35 + 0) _ (by rw [h0]; rfl)
  refine ⟨b, off, rfl, fun j hj => ?_⟩
  have hl := fcells_length (hg f (List.mem_of_getElem? hk))
  have h1 := fvs_at (j := j) hg hk hj
  rw [List.getElem?_eq_getElem (show j < (fcells f).length by omega)] at h1 ⊢
  have := h.at h1
  rwa [← Nat.add_assoc] at this

/-- how heavy -/
def hv : Nat → List Fd → Nat
  | n, [] => n
  | n, f :: r => if n ≤ 3000 then hv (n + 10 + f.len) r else n
theorem hv_big {n : Nat} (l : List Fd) (h : 3000 < n) : hv n l = n := by
  cases l with
  | nil => rfl
  | cons f r => unfold hv; rw [if_neg (by omega)]
def sumL (l : List Fd) : Nat := (l.map fun f => 10 + f.len).sum
theorem hv_light : ∀ (l : List Fd) (n : Nat), hv n l ≤ 3000 → n + sumL l ≤ 3000
  | [], n, h => by simpa [hv, sumL] using h
  | f :: r, n, h => by
    unfold hv at h
    split at h
    · have := hv_light r _ h
      simp only [sumL, List.map_cons, List.sum_cons] at this ⊢
      omega
    · omega

set_option maxRecDepth 100000 in
theorem heavy_any {w : World} {a : Option Addr} {m c : Nat} {l : List Fd} (hR : Rd w a (fvs l)) (hm : l.length = m) (hg : ∀ f ∈ l, Good w f) (hmm : m ≤ maxLen) :
    Calls Try.prog 21 #[.slice a m c] w fun e w' => e = .returned (.bool (decide (3000 < hv 0 l))) ∧ w = w' := by
  unfold maxLen at hmm
  go_enter Try.func21, Try.ntmps21
  go_wp2_with fail
  go_loop [3, 4] (fun v i => ∃ k n : Nat, k ≤ m ∧ i = .int .i64 k ∧ v = .int .i64 n ∧ n ≤ 281474976710656 ∧ Hid (hv n (l.drop k) = hv 0 l)) (fun _ i => m - (intOf i).toNat)
  case atStart => exact ⟨0, 0, by omega, rfl, rfl, by omega, rfl⟩
  case round =>
    obtain ⟨k, n, hk, rfl, rfl, hn, HV⟩ := hrel
    by_cases hlt : k < m
    · by_cases hb : (n : Int) ≤ 3000
      · obtain ⟨f, hf⟩ : ∃ f, l[k]? = some f := ⟨l[k], List.getElem?_eq_getElem (by omega)⟩
        have hd : l.drop k = f :: l.drop (k + 1) := by
          obtain ⟨h1, h2⟩ := List.getElem?_eq_some_iff.1 hf
          rw [← h2, List.getElem_cons_drop]
        have HV2 : Hid (hv (n + 10 + f.len) (l.drop (k + 1)) = hv 0 l) := by
          show _ = _
          rw [← HV.out, hd]
          conv => rhs; unfold hv
          rw [if_pos (by omega)]
        have hfl := (hg f (List.mem_of_getElem? hf)).reach
        obtain ⟨b, off, rfl, hc⟩ := fvs_cells hR hg hf
        have c2 := hc 2 (by omega)
        simp only [fcells, List.getElem?_cons_succ, List.getElem?_cons_zero] at c2
        clear hc hd
        go_wp2
        go_round
        case rel => exact ⟨k + 1, n + 10 + f.len, by omega, rfl, rfl, by omega, HV2⟩
        case measure => simp [intOf]; omega
      · have HE : Hid (hv 0 l = n) := by show _ = _; rw [← HV.out, hv_big _ (by omega)]
        go_wp2
        go_ret
        exact ⟨by rw [HE.out, decide_eq_true (by omega)]; rfl, rfl⟩
    · have HE : Hid (hv 0 l = n) := by show _ = _; rw [← HV.out, List.drop_of_length_le (by omega)]; rfl
      go_wp2
      go_ret
      have hdd : decide ((3000 : Int) < (n : Int)) = decide (3000 < n) := by rw [decide_eq_decide]; omega
      exact ⟨by rw [HE.out, ← hdd]; rfl, rfl⟩
end Go.Proofs.Ytbkieoblhacngaa
