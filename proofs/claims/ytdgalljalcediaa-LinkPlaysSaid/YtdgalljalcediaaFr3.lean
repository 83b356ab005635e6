/-
  frame: bytes.Equal; Decode.
-/
import Derived.Test.YtdgalljalcediaaFr1
import Derived.Laws.BytesArg
import Derived.Laws.Strings
import Derived.Lib.Strings
namespace Go.Proofs.Ytdgalljalcediaa
open Go.RowKit Go.Sep Go.Oct
set_option linter.unusedSimpArgs false

theorem strOf_eq : ∀ {xs ys : List Int}, Bytes xs → Bytes ys → ((strOfNums xs).toList == (strOfNums ys).toList) = decide (xs = ys) := by
  intro xs ys hx hy
  rw [Lib.toList_data, Lib.toList_data, strOfNums_data, strOfNums_data]
  have h1 : ∀ {xs ys : List Int}, Bytes xs → Bytes ys → (xs.map (fun n => UInt8.ofNat n.toNat) = ys.map (fun n => UInt8.ofNat n.toNat)) → xs = ys := by
    intro xs
    induction xs with
    | nil => intro ys _ _ h; cases ys with
      | nil => rfl
      | cons y ys => simp at h
    | cons x xs ih =>
      intro ys hx hy h
      cases ys with
      | nil => simp at h
      | cons y ys =>
        simp only [List.map_cons, List.cons.injEq] at h
        have b1 := hx x (by simp)
        have b2 := hy y (by simp)
        have e : x = y := by
          have h2 := congrArg UInt8.toNat h.1
          simp only [UInt8.toNat_ofNat'] at h2
          omega
        rw [e, ih (fun z hz => hx z (by simp [hz])) (fun z hz => hy z (by simp [hz])) h.2]
  by_cases h : xs = ys
  · subst h; simp
  · rw [decide_eq_false h]
    exact beq_false_of_ne fun e => h (h1 hx hy e)

theorem conv_bytes {w : World} {a : Option Addr} {n c : Nat} {xs : List Int} (hR : Rd w a (bv xs)) (hn : xs.length = n) (h0 : a = none → n = 0) : (convert 29 9 (.slice a n c)).run Try.prog w = .ok (.string (strOfNums xs)) w := by
  cases a with
  | none =>
    have := h0 rfl
    obtain rfl : xs = [] := List.eq_nil_of_length_eq_zero (by omega)
    exact run_convert_bytes_nil w 29 5 Try.underlying29 Try.underlying5 n c 9 Try.underlying9
  | some ad =>
    by_cases hz : xs = []
    · subst hz
      obtain rfl : n = 0 := hn.symm
      obtain ⟨b, off, k⟩ := ad
      rw [run_convert_bytes_string w 29 9 5 _ 0 c Try.underlying29 Try.underlying5 Try.underlying9]
      rfl
    · obtain ⟨x, r, rfl⟩ := List.exists_cons_of_ne_nil hz
      obtain ⟨b, off, e, _⟩ := hR 0 (.int .u8 x) rfl
      cases e
      refine run_convert_bytes_arg w 29 5 Try.underlying29 Try.underlying5 b off n c (x :: r) hn (fun i hi => ?_) 9 Try.underlying9
      have h1 : (bv (x :: r))[i]? = some (.int .u8 ((x :: r).getD i 0)) := by
        unfold bv
        rw [List.getElem?_map, List.getElem?_eq_getElem (by omega), List.getD_eq_getElem?_getD, List.getElem?_eq_getElem (by omega)]
        rfl
      exact hR.at h1

set_option maxRecDepth 100000 in
theorem bytesEqual_any {w : World} {a b : Option Addr} {n c m d : Nat} {xs ys : List Int} (hx : Rd w a (bv xs)) (hy : Rd w b (bv ys)) (hn : xs.length = n) (hm : ys.length = m) (h0 : a = none → n = 0) (h1 : b = none → m = 0) (bx : Bytes xs) (by' : Bytes ys) :
    Calls Try.prog 62 #[.slice a n c, .slice b m d] w fun e w' => e = .returned (.bool (decide (xs = ys))) ∧ w = w' := by
  have g1 := conv_bytes (c := c) hx hn h0
  have g2 := conv_bytes (c := d) hy hm h1
  rw [← strOf_eq bx by']
  go_enter Try.func62, Try.ntmps62
  go_wp2_with fail
  go_ret
  exact ⟨rfl, rfl⟩
end Go.Proofs.Ytdgalljalcediaa
