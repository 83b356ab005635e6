/-
  octet: bytes and digests, both ways; what is handed out.
-/
import Derived.Test.YtjdeeloemhjbhaaVOct3
namespace Go.Proofs.Ytjdeeloemhjbhaa
open Go.RowKit Go.Sep Go.Oct

theorem Rd.none_nil {w : World} {xs : List Value} (h : Rd w none xs) : xs = [] := by
  cases xs with
  | nil => rfl
  | cons u r => obtain ⟨_, _, h, _⟩ := h 0 u rfl; cases h
theorem bv_nil {xs : List Int} (h : bv xs = []) : xs = [] := by simpa [bv] using h

/-- Clone, whatever the slice -/
theorem clone_any {W0 w : World} {L : List Asn} (S : Sat W0 w L) {a : Option Addr} {m c : Nat} {xs : List Int} (hR : Rd w a (bv xs)) (hm : xs.length = m) (h0 : a = none → c = 0) (hb : m ≤ 1099511627776) :
    Calls Try.prog 52 #[.slice a m c] w fun e w' => ∃ ao cap, e = .returned (.slice ao m cap) ∧ Sat W0 w' (sbs ao m cap xs :: L) := by
  cases a with
  | some a => exact clone_some S hR hm hb
  | none =>
    obtain rfl := h0 rfl
    obtain rfl := bv_nil (Rd.none_nil hR)
    obtain rfl : m = 0 := by simpa using hm.symm
    refine (clone_nil w).mono ?_
    rintro e w' ⟨rfl, rfl⟩
    exact ⟨none, 0, rfl, Sat.own_none.2 ⟨rfl, rfl, rfl, S⟩⟩

theorem sbs_rd {W0 w : World} {L : List Asn} {ao : Option Addr} {n cap : Nat} {bs : List Int} (S : Sat W0 w (sbs ao n cap bs :: L)) : Rd w ao (bv bs) ∧ bs.length = n ∧ n ≤ cap ∧ (ao = none → cap = 0) := by
  obtain ⟨h1, h2, h3, h4⟩ := Sat.own_len S
  exact ⟨Sat.own_rd S, by simpa [bv_length] using h1, h2, fun h => (h4 h).2⟩

set_option maxRecDepth 100000 in
theorem out_any {W0 w : World} {L : List Asn} {p : Nat} {bs : List Int} (S : Sat W0 w (Wr p bs :: L)) (hb : bs.length ≤ 1099511627776) :
    Calls Try.prog 46 #[.pointer (some ⟨p, 0, none⟩)] w fun e w' => ∃ ao cap, e = .returned (.slice ao bs.length cap) ∧ Sat W0 w' (sbs ao bs.length cap bs :: Wr p bs :: L) := by
  obtain ⟨ao, cap, S'⟩ := Wr_open.1 S
  obtain ⟨hR, _, _, h0⟩ := sbs_rd S'.swap
  have c0 := S'.cell 0 rfl 0
  simp only [List.getElem?_cons_zero] at c0
  go_enter Try.func46, Try.ntmps46
  go_wp2_with (go_at_call 52; refine (clone_any S hR rfl h0 hb).mono ?_; rintro e w' ⟨ao', cap', rfl, S2⟩)
  go_ret
  exact ⟨ao', cap', rfl, S2⟩

set_option maxRecDepth 100000 in
theorem out_none (w : World) : Calls Try.prog 46 #[.pointer none] w fun e w' => e = .returned (.slice none 0 0) ∧ w = w' := by
  go_enter Try.func46, Try.ntmps46
  go_wp2
  go_ret
  exact ⟨rfl, rfl⟩

set_option maxRecDepth 100000 in
theorem newReader_any {W0 w : World} {L : List Asn} (S : Sat W0 w L) {a : Option Addr} {m c : Nat} {xs : List Int} (hR : Rd w a (bv xs)) (hm : xs.length = m) (h0 : a = none → c = 0) (hb : m ≤ 1099511627776) :
    Calls Try.prog 37 #[.slice a m c] w fun e w' => ∃ p, e = .returned (.pointer (some ⟨p, 0, none⟩)) ∧ Sat W0 w' (Rr p xs 0 :: L) := by
  go_enter Try.func37, Try.ntmps37
  go_wp2_with (go_at_call 52; refine (clone_any S hR hm h0 hb).mono ?_; rintro e w' ⟨ao', cap', rfl, S2⟩)
  go_ret
  refine ⟨w'.heap.size, rfl, Rr_open.2 ⟨ao', cap', ?_⟩⟩
  rw [hm]
  exact S2.alloc [.slice ao' m cap', .int .i64 0] _

/-- Bytes as they are taken -/
def Bytesd (W0 : World) (L : List Asn) (p : Nat) (bs : List Int) (e0 : Int) (e : Ending) (w' : World) : Prop :=
  ∃ ao cap xs, Hid (xs = (rdBytes bs e0).1) ∧ e = .returned (.slice ao xs.length cap) ∧ Sat W0 w' (sbs ao xs.length cap xs :: Rr p (rdBytes bs e0).2.1 (rdBytes bs e0).2.2 :: L)

theorem rdBytes_bad {bs : List Int} {e : Int} (h : (rdNum bs e).1 < 0 ∨ 16777216 < (rdNum bs e).1) : rdBytes bs e = ([], [], 3) := by unfold rdBytes; rw [if_pos h]
theorem rdBytes_ok {bs : List Int} {e : Int} (h : ¬ ((rdNum bs e).1 < 0 ∨ 16777216 < (rdNum bs e).1)) : rdBytes bs e = tk (rdNum bs e).1.toNat (rdNum bs e).2.1 (rdNum bs e).2.2 := by unfold rdBytes; rw [if_neg h]

end Go.Proofs.Ytjdeeloemhjbhaa
