/-
  vm: numbers with digits behind the point; ops of two numbers.
-/
import Derived.Test.YtjdeeloemhjbhaaGreatQVm2

namespace Go.Proofs.YtjdeeloemhjbhaaGreat
open Go.RowKit Go.Sep Go.Vm

theorem ret_int {k : IntKind} {a b : Int} (h : a = b) : Ending.returned (.int k a) = .returned (.int k b) := by rw [h]
theorem held_bd (v : Int) : -2147483648 ≤ held v ∧ held v ≤ 2147483647 := by unfold held; omega

set_option maxRecDepth 100000 in
theorem fheld_any (w : World) (v : Int) (h : -9223372036854775808 ≤ v ∧ v < 9223372036854775808) : Calls Tryz.prog 120 #[.int .i64 v] w fun e w' => e = .returned (.int .i32 (held v)) ∧ w = w' := by
  go_enter Tryz.func120, Tryz.ntmps120
  go_wp2_with fail
  all_goals
    go_ret
    exact ⟨ret_int (by unfold held; omega), rfl⟩

abbrev I32 (a : Int) : Prop := -2147483648 ≤ a ∧ a ≤ 2147483647

set_option maxRecDepth 100000 in
theorem fadd_any (w : World) (a b : Int) (ha : -2147483648 ≤ a ∧ a ≤ 2147483647) (hb : -2147483648 ≤ b ∧ b ≤ 2147483647) : Calls Tryz.prog 97 #[.int .i32 a, .int .i32 b] w fun e w' => e = .returned (.int .i32 (fadd a b)) ∧ w = w' := by
  go_enter Tryz.func97, Tryz.ntmps97
  go_wp2_with (go_at_call 120; refine (fheld_any _ (a + b) (by omega)).mono ?_; rintro e w1 ⟨rfl, rfl⟩)
  go_ret
  exact ⟨rfl, rfl⟩

set_option maxRecDepth 100000 in
theorem fsub_any (w : World) (a b : Int) (ha : -2147483648 ≤ a ∧ a ≤ 2147483647) (hb : -2147483648 ≤ b ∧ b ≤ 2147483647) : Calls Tryz.prog 98 #[.int .i32 a, .int .i32 b] w fun e w' => e = .returned (.int .i32 (fsub a b)) ∧ w = w' := by
  go_enter Tryz.func98, Tryz.ntmps98
  go_wp2_with (go_at_call 120; refine (fheld_any _ (a - b) (by omega)).mono ?_; rintro e w1 ⟨rfl, rfl⟩)
  go_ret
  exact ⟨rfl, rfl⟩

theorem mul_bd {a b : Int} (ha : -2147483648 ≤ a ∧ a ≤ 2147483647) (hb : -2147483648 ≤ b ∧ b ≤ 2147483647) : -4611686018427387904 ≤ a * b ∧ a * b ≤ 4611686018427387904 := by
  have h1 : (a * b).natAbs ≤ 2147483648 * 2147483648 := by
    rw [Int.natAbs_mul]
    exact Nat.mul_le_mul (by omega) (by omega)
  omega

set_option maxRecDepth 100000 in
theorem fmul_any (w : World) (a b : Int) (ha : -2147483648 ≤ a ∧ a ≤ 2147483647) (hb : -2147483648 ≤ b ∧ b ≤ 2147483647) : Calls Tryz.prog 99 #[.int .i32 a, .int .i32 b] w fun e w' => e = .returned (.int .i32 (fmul a b)) ∧ w = w' := by
  have hm := mul_bd ha hb
  have h2 : -9223372036854775808 ≤ a * b / 65536 ∧ a * b / 65536 < 9223372036854775808 := by omega
  go_enter Tryz.func99, Tryz.ntmps99
  go_wp2_with (go_at_call 120; refine (fheld_any _ (a * b / 65536) h2).mono ?_; rintro e w1 ⟨rfl, rfl⟩)
  go_ret
  exact ⟨rfl, rfl⟩

set_option maxRecDepth 100000 in
theorem fdiv_any (w : World) (a b : Int) (ha : -2147483648 ≤ a ∧ a ≤ 2147483647) (hb : -2147483648 ≤ b ∧ b ≤ 2147483647) : Calls Tryz.prog 100 #[.int .i32 a, .int .i32 b] w fun e w' => e = .returned (.int .i32 (fdiv a b)) ∧ w = w' := by
  by_cases hz : b = 0
  · subst hz
    by_cases h1 : 0 < a
    · have e1 : Hid (fdiv a 0 = 2147483647) := by show _ = _; unfold fdiv; rw [if_neg (by simp), if_pos h1]
      go_enter Tryz.func100, Tryz.ntmps100
      go_wp2_with fail
      go_ret
      exact ⟨ret_int e1.out.symm, rfl⟩
    · by_cases h2 : a < 0
      · have e1 : Hid (fdiv a 0 = -2147483648) := by show _ = _; unfold fdiv; rw [if_neg (by simp), if_neg h1, if_pos h2]
        go_enter Tryz.func100, Tryz.ntmps100
        go_wp2_with fail
        go_ret
        exact ⟨ret_int e1.out.symm, rfl⟩
      · have e1 : Hid (fdiv a 0 = 0) := by show _ = _; unfold fdiv; rw [if_neg (by simp), if_neg h1, if_neg h2]
        go_enter Tryz.func100, Tryz.ntmps100
        go_wp2_with fail
        go_ret
        exact ⟨ret_int e1.out.symm, rfl⟩
  · have e1 : Hid (fdiv a b = held ((a * 65536).tdiv b)) := by show _ = _; unfold fdiv; rw [if_pos hz]
    have hne : (b != 0) = true := by simpa using hz
    have hne2 : (b == 0) = false := by simpa using hz
    have hq : -9223372036854775808 ≤ (a * 65536).tdiv b ∧ (a * 65536).tdiv b < 9223372036854775808 := by
      have h3 : ((a * 65536).tdiv b).natAbs ≤ (a * 65536).natAbs := by
        rw [Int.natAbs_tdiv]; exact Nat.div_le_self _ _
      omega
    go_enter Tryz.func100, Tryz.ntmps100
    go_wp2_with (go_at_call 120; refine (fheld_any _ ((a * 65536).tdiv b) hq).mono ?_; rintro e w1 ⟨rfl, rfl⟩)
    go_ret
    exact ⟨ret_int e1.out.symm, rfl⟩

set_option maxRecDepth 100000 in
theorem least_any (w : World) (a b : Int) : Calls Tryz.prog 101 #[.int .i32 b, .int .i32 a] w fun e w' => e = .returned (.int .i32 (min b a)) ∧ w = w' := by
  go_enter Tryz.func101, Tryz.ntmps101
  go_wp2_with fail
  all_goals
    go_ret
    exact ⟨ret_int (by omega), rfl⟩
set_option maxRecDepth 100000 in
theorem greatest_any (w : World) (a b : Int) : Calls Tryz.prog 102 #[.int .i32 b, .int .i32 a] w fun e w' => e = .returned (.int .i32 (max b a)) ∧ w = w' := by
  go_enter Tryz.func102, Tryz.ntmps102
  go_wp2_with fail
  all_goals
    go_ret
    exact ⟨ret_int (by omega), rfl⟩
set_option maxRecDepth 100000 in
theorem less_any (w : World) (a b : Int) : Calls Tryz.prog 103 #[.int .i32 b, .int .i32 a] w fun e w' => e = .returned (.int .i32 (truth (decide (b < a)))) ∧ w = w' := by
  go_enter Tryz.func103, Tryz.ntmps103
  go_wp2_with (go_at_call 121; refine (vtruth_any _ (decide (b < a))).mono ?_; rintro e w1 ⟨rfl, rfl⟩)
  go_ret
  exact ⟨rfl, rfl⟩
set_option maxRecDepth 100000 in
theorem vsame_any (w : World) (a b : Int) : Calls Tryz.prog 104 #[.int .i32 b, .int .i32 a] w fun e w' => e = .returned (.int .i32 (truth (decide (b = a)))) ∧ w = w' := by
  go_enter Tryz.func104, Tryz.ntmps104
  go_wp2_with (go_at_call 121; refine (vtruth_any _ (b == a)).mono ?_; rintro e w1 ⟨rfl, rfl⟩)
  go_ret
  exact ⟨rfl, rfl⟩
set_option maxRecDepth 100000 in
theorem two4_any {W0 w : World} {L : List Asn} {p : Nat} {m : VM} (h : m.s.cells.length = 16) (S : Sat W0 w (Mc p m :: L)) (hb : m.st.length ≤ 800) {pf : Nat} (hF : ∀ w', Sat W0 w' L → w'.cell? ⟨pf, 0, none⟩ = some (.func (.func 97) #[] #[])) (arg : Int)
    {v u : Int} {m' m2 : VM} (hp : m.pop = (v, m')) (hq : m'.pop = (u, m2)) (hv : -2147483648 ≤ v ∧ v ≤ 2147483647) (hu : -2147483648 ≤ u ∧ u ≤ 2147483647) :
    Calls Tryz.prog 119 #[.pointer (some ⟨p, 0, none⟩), .int .i64 arg, .pointer (some ⟨pf, 0, none⟩)] w fun e w' => e = .returned (.tuple #[]) ∧ Sat W0 w' (Mc p (m2.push (fadd u v)) :: L) := by
  obtain ⟨h1, h2, _⟩ := pop_len h hp
  obtain ⟨h3, h4, _⟩ := pop_len h1 hq
  have HP := Lib.hid hp
  have HQ := Lib.hid hq
  have HF := Lib.hid hF
  clear hp hq hF
  go_enter Tryz.func119, Tryz.ntmps119
  go_wp2_with (first
    | (go_at_call 118; refine (vpop_any h1 S2 HQ.out).mono ?_; rintro e w' ⟨rfl, S3⟩; have cf := HF.out _ S3.tail)
    | (go_at_call 118; refine (vpop_any h S HP.out).mono ?_; rintro e w' ⟨rfl, S2⟩)
    | (go_at_call 97; refine (fadd_any _ u v hu hv).mono ?_; rintro e w3 ⟨rfl, rfl⟩)
    | (go_at_call 117; refine (vpush_new h3 S3 (by omega)).mono ?_; rintro e w' ⟨rfl, S4⟩))
  go_end0
  exact ⟨rfl, S4⟩

set_option maxRecDepth 100000 in
theorem two5_any {W0 w : World} {L : List Asn} {p : Nat} {m : VM} (h : m.s.cells.length = 16) (S : Sat W0 w (Mc p m :: L)) (hb : m.st.length ≤ 800) {pf : Nat} (hF : ∀ w', Sat W0 w' L → w'.cell? ⟨pf, 0, none⟩ = some (.func (.func 98) #[] #[])) (arg : Int)
    {v u : Int} {m' m2 : VM} (hp : m.pop = (v, m')) (hq : m'.pop = (u, m2)) (hv : -2147483648 ≤ v ∧ v ≤ 2147483647) (hu : -2147483648 ≤ u ∧ u ≤ 2147483647) :
    Calls Tryz.prog 119 #[.pointer (some ⟨p, 0, none⟩), .int .i64 arg, .pointer (some ⟨pf, 0, none⟩)] w fun e w' => e = .returned (.tuple #[]) ∧ Sat W0 w' (Mc p (m2.push (fsub u v)) :: L) := by
  obtain ⟨h1, h2, _⟩ := pop_len h hp
  obtain ⟨h3, h4, _⟩ := pop_len h1 hq
  have HP := Lib.hid hp
  have HQ := Lib.hid hq
  have HF := Lib.hid hF
  clear hp hq hF
  go_enter Tryz.func119, Tryz.ntmps119
  go_wp2_with (first
    | (go_at_call 118; refine (vpop_any h1 S2 HQ.out).mono ?_; rintro e w' ⟨rfl, S3⟩; have cf := HF.out _ S3.tail)
    | (go_at_call 118; refine (vpop_any h S HP.out).mono ?_; rintro e w' ⟨rfl, S2⟩)
    | (go_at_call 98; refine (fsub_any _ u v hu hv).mono ?_; rintro e w3 ⟨rfl, rfl⟩)
    | (go_at_call 117; refine (vpush_new h3 S3 (by omega)).mono ?_; rintro e w' ⟨rfl, S4⟩))
  go_end0
  exact ⟨rfl, S4⟩

set_option maxRecDepth 100000 in
theorem two6_any {W0 w : World} {L : List Asn} {p : Nat} {m : VM} (h : m.s.cells.length = 16) (S : Sat W0 w (Mc p m :: L)) (hb : m.st.length ≤ 800) {pf : Nat} (hF : ∀ w', Sat W0 w' L → w'.cell? ⟨pf, 0, none⟩ = some (.func (.func 99) #[] #[])) (arg : Int)
    {v u : Int} {m' m2 : VM} (hp : m.pop = (v, m')) (hq : m'.pop = (u, m2)) (hv : -2147483648 ≤ v ∧ v ≤ 2147483647) (hu : -2147483648 ≤ u ∧ u ≤ 2147483647) :
    Calls Tryz.prog 119 #[.pointer (some ⟨p, 0, none⟩), .int .i64 arg, .pointer (some ⟨pf, 0, none⟩)] w fun e w' => e = .returned (.tuple #[]) ∧ Sat W0 w' (Mc p (m2.push (fmul u v)) :: L) := by
  obtain ⟨h1, h2, _⟩ := pop_len h hp
  obtain ⟨h3, h4, _⟩ := pop_len h1 hq
  have HP := Lib.hid hp
  have HQ := Lib.hid hq
  have HF := Lib.hid hF
  clear hp hq hF
  go_enter Tryz.func119, Tryz.ntmps119
  go_wp2_with (first
    | (go_at_call 118; refine (vpop_any h1 S2 HQ.out).mono ?_; rintro e w' ⟨rfl, S3⟩; have cf := HF.out _ S3.tail)
    | (go_at_call 118; refine (vpop_any h S HP.out).mono ?_; rintro e w' ⟨rfl, S2⟩)
    | (go_at_call 99; refine (fmul_any _ u v hu hv).mono ?_; rintro e w3 ⟨rfl, rfl⟩)
    | (go_at_call 117; refine (vpush_new h3 S3 (by omega)).mono ?_; rintro e w' ⟨rfl, S4⟩))
  go_end0
  exact ⟨rfl, S4⟩

set_option maxRecDepth 100000 in
theorem two7_any {W0 w : World} {L : List Asn} {p : Nat} {m : VM} (h : m.s.cells.length = 16) (S : Sat W0 w (Mc p m :: L)) (hb : m.st.length ≤ 800) {pf : Nat} (hF : ∀ w', Sat W0 w' L → w'.cell? ⟨pf, 0, none⟩ = some (.func (.func 100) #[] #[])) (arg : Int)
    {v u : Int} {m' m2 : VM} (hp : m.pop = (v, m')) (hq : m'.pop = (u, m2)) (hv : -2147483648 ≤ v ∧ v ≤ 2147483647) (hu : -2147483648 ≤ u ∧ u ≤ 2147483647) :
    Calls Tryz.prog 119 #[.pointer (some ⟨p, 0, none⟩), .int .i64 arg, .pointer (some ⟨pf, 0, none⟩)] w fun e w' => e = .returned (.tuple #[]) ∧ Sat W0 w' (Mc p (m2.push (fdiv u v)) :: L) := by
  obtain ⟨h1, h2, _⟩ := pop_len h hp
  obtain ⟨h3, h4, _⟩ := pop_len h1 hq
  have HP := Lib.hid hp
  have HQ := Lib.hid hq
  have HF := Lib.hid hF
  clear hp hq hF
  go_enter Tryz.func119, Tryz.ntmps119
  go_wp2_with (first
    | (go_at_call 118; refine (vpop_any h1 S2 HQ.out).mono ?_; rintro e w' ⟨rfl, S3⟩; have cf := HF.out _ S3.tail)
    | (go_at_call 118; refine (vpop_any h S HP.out).mono ?_; rintro e w' ⟨rfl, S2⟩)
    | (go_at_call 100; refine (fdiv_any _ u v hu hv).mono ?_; rintro e w3 ⟨rfl, rfl⟩)
    | (go_at_call 117; refine (vpush_new h3 S3 (by omega)).mono ?_; rintro e w' ⟨rfl, S4⟩))
  go_end0
  exact ⟨rfl, S4⟩

set_option maxRecDepth 100000 in
theorem two8_any {W0 w : World} {L : List Asn} {p : Nat} {m : VM} (h : m.s.cells.length = 16) (S : Sat W0 w (Mc p m :: L)) (hb : m.st.length ≤ 800) {pf : Nat} (hF : ∀ w', Sat W0 w' L → w'.cell? ⟨pf, 0, none⟩ = some (.func (.func 101) #[] #[])) (arg : Int)
    {v u : Int} {m' m2 : VM} (hp : m.pop = (v, m')) (hq : m'.pop = (u, m2)) (_hv : -2147483648 ≤ v ∧ v ≤ 2147483647) (_hu : -2147483648 ≤ u ∧ u ≤ 2147483647) :
    Calls Tryz.prog 119 #[.pointer (some ⟨p, 0, none⟩), .int .i64 arg, .pointer (some ⟨pf, 0, none⟩)] w fun e w' => e = .returned (.tuple #[]) ∧ Sat W0 w' (Mc p (m2.push (min u v)) :: L) := by
  obtain ⟨h1, h2, _⟩ := pop_len h hp
  obtain ⟨h3, h4, _⟩ := pop_len h1 hq
  have HP := Lib.hid hp
  have HQ := Lib.hid hq
  have HF := Lib.hid hF
  clear hp hq hF
  go_enter Tryz.func119, Tryz.ntmps119
  go_wp2_with (first
    | (go_at_call 118; refine (vpop_any h1 S2 HQ.out).mono ?_; rintro e w' ⟨rfl, S3⟩; have cf := HF.out _ S3.tail)
    | (go_at_call 118; refine (vpop_any h S HP.out).mono ?_; rintro e w' ⟨rfl, S2⟩)
    | (go_at_call 101; refine (least_any _ v u).mono ?_; rintro e w3 ⟨rfl, rfl⟩)
    | (go_at_call 117; refine (vpush_new h3 S3 (by omega)).mono ?_; rintro e w' ⟨rfl, S4⟩))
  go_end0
  exact ⟨rfl, S4⟩

set_option maxRecDepth 100000 in
theorem two9_any {W0 w : World} {L : List Asn} {p : Nat} {m : VM} (h : m.s.cells.length = 16) (S : Sat W0 w (Mc p m :: L)) (hb : m.st.length ≤ 800) {pf : Nat} (hF : ∀ w', Sat W0 w' L → w'.cell? ⟨pf, 0, none⟩ = some (.func (.func 102) #[] #[])) (arg : Int)
    {v u : Int} {m' m2 : VM} (hp : m.pop = (v, m')) (hq : m'.pop = (u, m2)) (_hv : -2147483648 ≤ v ∧ v ≤ 2147483647) (_hu : -2147483648 ≤ u ∧ u ≤ 2147483647) :
    Calls Tryz.prog 119 #[.pointer (some ⟨p, 0, none⟩), .int .i64 arg, .pointer (some ⟨pf, 0, none⟩)] w fun e w' => e = .returned (.tuple #[]) ∧ Sat W0 w' (Mc p (m2.push (max u v)) :: L) := by
  obtain ⟨h1, h2, _⟩ := pop_len h hp
  obtain ⟨h3, h4, _⟩ := pop_len h1 hq
  have HP := Lib.hid hp
  have HQ := Lib.hid hq
  have HF := Lib.hid hF
  clear hp hq hF
  go_enter Tryz.func119, Tryz.ntmps119
  go_wp2_with (first
    | (go_at_call 118; refine (vpop_any h1 S2 HQ.out).mono ?_; rintro e w' ⟨rfl, S3⟩; have cf := HF.out _ S3.tail)
    | (go_at_call 118; refine (vpop_any h S HP.out).mono ?_; rintro e w' ⟨rfl, S2⟩)
    | (go_at_call 102; refine (greatest_any _ v u).mono ?_; rintro e w3 ⟨rfl, rfl⟩)
    | (go_at_call 117; refine (vpush_new h3 S3 (by omega)).mono ?_; rintro e w' ⟨rfl, S4⟩))
  go_end0
  exact ⟨rfl, S4⟩

set_option maxRecDepth 100000 in
theorem two10_any {W0 w : World} {L : List Asn} {p : Nat} {m : VM} (h : m.s.cells.length = 16) (S : Sat W0 w (Mc p m :: L)) (hb : m.st.length ≤ 800) {pf : Nat} (hF : ∀ w', Sat W0 w' L → w'.cell? ⟨pf, 0, none⟩ = some (.func (.func 103) #[] #[])) (arg : Int)
    {v u : Int} {m' m2 : VM} (hp : m.pop = (v, m')) (hq : m'.pop = (u, m2)) (_hv : -2147483648 ≤ v ∧ v ≤ 2147483647) (_hu : -2147483648 ≤ u ∧ u ≤ 2147483647) :
    Calls Tryz.prog 119 #[.pointer (some ⟨p, 0, none⟩), .int .i64 arg, .pointer (some ⟨pf, 0, none⟩)] w fun e w' => e = .returned (.tuple #[]) ∧ Sat W0 w' (Mc p (m2.push (truth (decide (u < v)))) :: L) := by
  obtain ⟨h1, h2, _⟩ := pop_len h hp
  obtain ⟨h3, h4, _⟩ := pop_len h1 hq
  have HP := Lib.hid hp
  have HQ := Lib.hid hq
  have HF := Lib.hid hF
  clear hp hq hF
  go_enter Tryz.func119, Tryz.ntmps119
  go_wp2_with (first
    | (go_at_call 118; refine (vpop_any h1 S2 HQ.out).mono ?_; rintro e w' ⟨rfl, S3⟩; have cf := HF.out _ S3.tail)
    | (go_at_call 118; refine (vpop_any h S HP.out).mono ?_; rintro e w' ⟨rfl, S2⟩)
    | (go_at_call 103; refine (less_any _ v u).mono ?_; rintro e w3 ⟨rfl, rfl⟩)
    | (go_at_call 117; refine (vpush_new h3 S3 (by omega)).mono ?_; rintro e w' ⟨rfl, S4⟩))
  go_end0
  exact ⟨rfl, S4⟩

set_option maxRecDepth 100000 in
theorem two11_any {W0 w : World} {L : List Asn} {p : Nat} {m : VM} (h : m.s.cells.length = 16) (S : Sat W0 w (Mc p m :: L)) (hb : m.st.length ≤ 800) {pf : Nat} (hF : ∀ w', Sat W0 w' L → w'.cell? ⟨pf, 0, none⟩ = some (.func (.func 104) #[] #[])) (arg : Int)
    {v u : Int} {m' m2 : VM} (hp : m.pop = (v, m')) (hq : m'.pop = (u, m2)) (_hv : -2147483648 ≤ v ∧ v ≤ 2147483647) (_hu : -2147483648 ≤ u ∧ u ≤ 2147483647) :
    Calls Tryz.prog 119 #[.pointer (some ⟨p, 0, none⟩), .int .i64 arg, .pointer (some ⟨pf, 0, none⟩)] w fun e w' => e = .returned (.tuple #[]) ∧ Sat W0 w' (Mc p (m2.push (truth (decide (u = v)))) :: L) := by
  obtain ⟨h1, h2, _⟩ := pop_len h hp
  obtain ⟨h3, h4, _⟩ := pop_len h1 hq
  have HP := Lib.hid hp
  have HQ := Lib.hid hq
  have HF := Lib.hid hF
  clear hp hq hF
  go_enter Tryz.func119, Tryz.ntmps119
  go_wp2_with (first
    | (go_at_call 118; refine (vpop_any h1 S2 HQ.out).mono ?_; rintro e w' ⟨rfl, S3⟩; have cf := HF.out _ S3.tail)
    | (go_at_call 118; refine (vpop_any h S HP.out).mono ?_; rintro e w' ⟨rfl, S2⟩)
    | (go_at_call 104; refine (vsame_any _ v u).mono ?_; rintro e w3 ⟨rfl, rfl⟩)
    | (go_at_call 117; refine (vpush_new h3 S3 (by omega)).mono ?_; rintro e w' ⟨rfl, S4⟩))
  go_end0
  exact ⟨rfl, S4⟩

end Go.Proofs.YtjdeeloemhjbhaaGreat
