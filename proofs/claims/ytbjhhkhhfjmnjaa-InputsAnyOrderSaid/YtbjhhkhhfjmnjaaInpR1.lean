/-
  gauntletref12: the document's Queue: none, Get, Known.
-/
import Derived.Test.YtbjhhkhhfjmnjaaInp1
namespace Go.Proofs.Ytbjhhkhhfjmnjaa
open Go.RowKit Go.Sep Go.Inp

/-- what is read of the row of player o -/
structure RR (w : World) (p n o gb hb : Nat) (r : PRow) : Prop where
  cN : w.cell? ⟨p, 0, none⟩ = some (.int .i64 n)
  cI : w.cell? ⟨p, 1 + o, none⟩ = some (.slice (some ⟨gb, 0, none⟩) n n)
  cS : w.cell? ⟨p, 3 + o, none⟩ = some (.slice (some ⟨hb, 0, none⟩) n n)
  ins : ∀ k, k < n → w.cell? ⟨gb, k, none⟩ = some (.int .u16 (inAt r k))
  kns : ∀ k, k < n → w.cell? ⟨hb, k, none⟩ = some (.bool (isKn r k))

set_option maxRecDepth 100000 in
theorem none_in {w : World} {p n o : Nat} (cN : w.cell? ⟨p, 0, none⟩ = some (.int .i64 n)) (ho : o < 2) (k : Nat) (hk : k < n) :
    Calls Try.prog 22 #[.pointer (some ⟨p, 0, none⟩), .int .i64 o, .int .i64 k] w fun e w' => e = .returned (.bool false) ∧ w = w' := by
  have e0 : (decide ((o : Int) < 0) || decide (1 < (o : Int)) || decide ((k : Int) < 0) || decide (n ≤ k)) = false := by simp; omega
  have E0 := Lib.hid e0
  clear e0
  go_enter Try.func22, Try.ntmps22
  go_wp2_with fail
  go_ret
  exact ⟨by rw [← E0.out]; rfl, rfl⟩
set_option maxRecDepth 100000 in
theorem none_out {w : World} {p n : Nat} {j fr : Int} (cN : w.cell? ⟨p, 0, none⟩ = some (.int .i64 n)) (h : j < 0 ∨ 1 < j ∨ fr < 0 ∨ (n : Int) ≤ fr) :
    Calls Try.prog 22 #[.pointer (some ⟨p, 0, none⟩), .int .i64 j, .int .i64 fr] w fun e w' => e = .returned (.bool true) ∧ w = w' := by
  by_cases h1 : j < 0
  · go_enter Try.func22, Try.ntmps22
    go_wp2_with fail
    go_ret
    exact ⟨rfl, rfl⟩
  by_cases h2 : 1 < j
  · go_enter Try.func22, Try.ntmps22
    go_wp2_with fail
    go_ret
    exact ⟨rfl, rfl⟩
  by_cases h3 : fr < 0
  · go_enter Try.func22, Try.ntmps22
    go_wp2_with fail
    go_ret
    exact ⟨rfl, rfl⟩
  have h4 : (n : Int) ≤ fr := by omega
  clear h
  go_enter Try.func22, Try.ntmps22
  go_wp2_with fail
  go_ret
  exact ⟨rfl, rfl⟩

set_option maxRecDepth 100000 in
theorem rget_out {w : World} {p : Nat} {j fr : Int} (h : j < 0 ∨ 1 < j ∨ fr < 0) :
    Calls Try.prog 13 #[.pointer (some ⟨p, 0, none⟩), .int .i64 j, .int .i64 fr] w fun e w' => e = .returned (.tuple #[.int .u16 0, .bool false]) ∧ w = w' := by
  by_cases h1 : j < 0
  · go_enter Try.func13, Try.ntmps13
    go_wp2_with fail
    go_ret2
    exact ⟨rfl, rfl⟩
  by_cases h2 : 1 < j
  · go_enter Try.func13, Try.ntmps13
    go_wp2_with fail
    go_ret2
    exact ⟨rfl, rfl⟩
  have h3 : fr < 0 := by omega
  clear h
  go_enter Try.func13, Try.ntmps13
  go_wp2_with fail
  go_ret2
  exact ⟨rfl, rfl⟩

set_option maxRecDepth 100000 in
theorem rget_in {w : World} {p n o gb hb : Nat} {r : PRow} (R : RR w p n o gb hb r) (ho : o < 2) (hn : n ≤ 600) (q : Nat) :
    Calls Try.prog 13 #[.pointer (some ⟨p, 0, none⟩), .int .i64 o, .int .i64 q] w fun e w' => e = .returned (.tuple #[.int .u16 (getR n r q).1, .bool (getR n r q).2]) ∧ w = w' := by
  obtain ⟨c0, c1, c2, HI, HK⟩ := R
  have b0 : (0 : Int) ≤ (o : Int) := Int.natCast_nonneg _
  by_cases hk : q < n ∧ isKn r q = true
  · have HG : Hid (getR n r q = (inAt r q, true)) := by show _ = _; unfold getR; rw [if_neg (by omega), if_pos ⟨by omega, hk.2⟩]; rfl
    have ck := HK q hk.1
    rw [hk.2] at ck
    have ci := HI q hk.1
    have hq := hk.1
    clear hk HI HK
    go_enter Try.func13, Try.ntmps13
    go_wp2_with fail
    go_ret2
    exact ⟨by rw [HG.out]; rfl, rfl⟩
  · have HG : Hid (getR n r q = (guess r (min q n), false)) := by show _ = _; unfold getR; rw [if_neg (by omega), if_neg (fun h => hk ⟨by omega, h.2⟩)]; rfl
    have hun : n ≤ q ∨ (q < n ∧ w.cell? ⟨hb, q, none⟩ = some (.bool false)) := by
      by_cases hq : q < n
      · refine .inr ⟨hq, ?_⟩
        rw [HK q hq, show isKn r q = false by cases hh : isKn r q; rfl; exact absurd ⟨hq, hh⟩ hk]
      · exact .inl (by omega)
    clear hk
    have hmin : (n ≤ q → min q n = n) ∧ (q < n → min q n = q) := ⟨fun _ => by omega, fun _ => by omega⟩
    rcases hun with hq | ⟨hq, ck⟩
    all_goals
      first | (rw [hmin.1 hq] at HG; have hmi : min (q : Int) (n : Int) = (n : Int) := by omega) | (rw [hmin.2 hq] at HG; have hmi : min (q : Int) (n : Int) = (q : Int) := by omega)
      clear hmin
      have HH := Lib.hid HK
      have HJ := Lib.hid HI
      clear HK HI
      go_enter Try.func13, Try.ntmps13
      go_wp2_with fail
      all_goals
        go_loop [8] (fun i => ∃ z : Int, ∃ k : Nat, i = .int .i64 z ∧ Hid (z = k - 1) ∧ k ≤ n ∧ Hid (getR n r q = (guess r k, false))) (fun i => (intOf i + 1).toNat)
        case atStart => first | exact ⟨_, _, rfl, rfl, by omega, HG⟩ | exact ⟨_, q, rfl, rfl, by omega, (show q = n by omega) ▸ HG⟩
        case round =>
          obtain ⟨z, k, rfl, hz, hkn, HK⟩ := hrel
          cases k with
          | zero =>
            obtain rfl : z = -1 := by have := hz.out; omega
            go_wp2
            go_ret2
            exact ⟨by rw [HK.out]; rfl, rfl⟩
          | succ k =>
            obtain rfl : z = (k : Int) := by have := hz.out; omega
            have ck2 := HH.out k (by omega)
            have ci2 := HJ.out k (by omega)
            by_cases hkk : isKn r k = true
            · rw [hkk] at ck2
              have HK2 : Hid (getR n r q = (inAt r k, false)) := by show _ = _; rw [HK.out, guess, if_pos hkk]
              clear hkk
              go_wp2
              go_ret2
              exact ⟨by rw [HK2.out]; rfl, rfl⟩
            · have hkf : isKn r k = false := by cases hh : isKn r k; rfl; exact absurd hh hkk
              rw [hkf] at ck2
              have HK2 : Hid (getR n r q = (guess r k, false)) := by show _ = _; rw [HK.out, guess, if_neg hkk]
              clear hkk hkf
              go_wp2
              go_round
              case rel => exact ⟨_, k, rfl, rfl, by omega, HK2⟩
              case measure => simp [intOf]

set_option maxRecDepth 100000 in
theorem rknown_out {w : World} {p : Nat} {j : Int} (h : j < 0 ∨ 1 < j) :
    Calls Try.prog 15 #[.pointer (some ⟨p, 0, none⟩), .int .i64 j] w fun e w' => e = .returned (.int .i64 0) ∧ w = w' := by
  rcases h with h | h
  all_goals
    go_enter Try.func15, Try.ntmps15
    go_wp2_with fail
    go_ret
    exact ⟨rfl, rfl⟩

set_option maxRecDepth 100000 in
theorem rknown_in {w : World} {p n o gb hb : Nat} {r : PRow} (R : RR w p n o gb hb r) (ho : o < 2) (hok : r.ok n) (hn : n ≤ 600) :
    Calls Try.prog 15 #[.pointer (some ⟨p, 0, none⟩), .int .i64 o] w fun e w' => e = .returned (.int .i64 (lead r.kn)) ∧ w = w' := by
  obtain ⟨c0, c1, c2, HI, HK⟩ := R
  have b0 : (0 : Int) ≤ (o : Int) := Int.natCast_nonneg _
  have hle : lead r.kn ≤ n := by have := lead_le r.kn; rw [hok.2] at this; exact this
  have HH := Lib.hid HK
  clear HK HI
  go_enter Try.func15, Try.ntmps15
  go_wp2_with fail
  go_loop [5] (fun i => ∃ k : Nat, i = .int .i64 k ∧ k ≤ lead r.kn) (fun i => n - (intOf i).toNat)
  case atStart => exact ⟨0, rfl, by omega⟩
  case round =>
    obtain ⟨k, rfl, hk⟩ := hrel
    by_cases hl : k < lead r.kn
    · have ck := HH.out k (by omega)
      have e : isKn r k = true := by unfold isKn; rw [lead_lt hl]; rfl
      rw [e] at ck
      have hkn : k < n := by omega
      clear e
      go_wp2
      go_round
      case rel => exact ⟨k + 1, rfl, by omega⟩
      case measure => simp [intOf]; omega
    · obtain rfl : k = lead r.kn := by omega
      by_cases hkn : lead r.kn < n
      · have ck := HH.out (lead r.kn) hkn
        have e : isKn r (lead r.kn) = false := by
          unfold isKn
          have h0 := lead_at (l := r.kn)
          cases hh : r.kn[lead r.kn]? with
          | none => rfl
          | some b => cases b; rfl; exact absurd hh h0
        rw [e] at ck
        clear e hl hk
        go_wp2
        go_ret
        exact ⟨rfl, rfl⟩
      · clear hl hk
        go_wp2
        go_ret
        exact ⟨rfl, rfl⟩
end Go.Proofs.Ytbjhhkhhfjmnjaa
