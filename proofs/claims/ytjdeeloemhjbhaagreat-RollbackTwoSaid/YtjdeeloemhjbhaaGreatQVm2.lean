/-
  vm: what each op does, as a contract over the machine in memory.
-/
import Derived.WalkLawsBesides
import Derived.Deep.RegionWith
import Derived.Test.YtjdeeloemhjbhaaGreatQVm1

namespace Go.Proofs.YtjdeeloemhjbhaaGreat
open Go.RowKit Go.Sep Go.Vm

set_option maxRecDepth 100000 in
theorem number_any {W0 w : World} {L : List Asn} {p : Nat} {m : VM} (h : m.s.cells.length = 16) (S : Sat W0 w (Mc p m :: L)) (_hb : m.st.length ≤ 800) (arg : Int) (ha : -2147483648 ≤ arg ∧ arg ≤ 2147483647) :
    Calls Tryz.prog 93 #[.pointer (some ⟨p, 0, none⟩), .int .i64 arg] w fun e w' => e = .returned (.tuple #[]) ∧ Sat W0 w' (Mc p (m.push arg) :: L) := by
  go_enter Tryz.func93, Tryz.ntmps93
  go_wp2_with (go_at_call 117; refine (vpush_new h S (v := arg) (by omega)).mono ?_; rintro e w' ⟨rfl, S2⟩)
  go_end0
  exact ⟨rfl, S2⟩

set_option maxRecDepth 100000 in
theorem load_any {W0 w : World} {L : List Asn} {p : Nat} {m : VM} (h : m.s.cells.length = 16) (S : Sat W0 w (Mc p m :: L)) (_hb : m.st.length ≤ 800) (k : Nat) (hk : k < 16) :
    Calls Tryz.prog 94 #[.pointer (some ⟨p, 0, none⟩), .int .i64 k] w fun e w' => e = .returned (.tuple #[]) ∧ Sat W0 w' (Mc p (m.push (m.s.cells[k]?.getD 0)) :: L) := by
  obtain ⟨ao, cap, S'⟩ := Mc_open.1 S
  have c1 := (mc_at h S').cells k hk
  generalize m.s.cells[k]?.getD 0 = v at c1 ⊢
  have k0 : (0 : Int) ≤ (k : Int) := Int.natCast_nonneg _
  have k1 : (k : Int) < 16 := by omega
  go_enter Tryz.func94, Tryz.ntmps94
  go_wp2_with (go_at_call 117; refine (vpush_new h S (v := v) (by omega)).mono ?_; rintro e w' ⟨rfl, S2⟩)
  go_end0
  exact ⟨rfl, S2⟩

set_option maxRecDepth 100000 in
theorem input_any {W0 w : World} {L : List Asn} {p : Nat} {m : VM} (h : m.s.cells.length = 16) (S : Sat W0 w (Mc p m :: L)) (_hb : m.st.length ≤ 800) (hi0 : 0 ≤ m.i0 ∧ m.i0 < 65536) (hi1 : 0 ≤ m.i1 ∧ m.i1 < 65536) (arg : Int) (ha : 0 ≤ arg ∧ arg ≤ 1) :
    Calls Tryz.prog 109 #[.pointer (some ⟨p, 0, none⟩), .int .i64 arg] w fun e w' => e = .returned (.tuple #[]) ∧ Sat W0 w' (Mc p (m.push (if arg = 0 then m.i0 else m.i1)) :: L) := by
  obtain ⟨ao, cap, S'⟩ := Mc_open.1 S
  have c0 := (mc_at h S').i0
  have c1 := (mc_at h S').i1
  obtain rfl | rfl : arg = 0 ∨ arg = 1 := by omega
  · rw [if_pos rfl]
    generalize m.i0 = v at c0 hi0 ⊢
    go_enter Tryz.func109, Tryz.ntmps109
    go_wp2_with (go_at_call 117; refine (vpush_new h S (v := v) (by omega)).mono ?_; rintro e w' ⟨rfl, S2⟩)
    go_end0
    exact ⟨rfl, S2⟩
  · rw [if_neg (by decide)]
    generalize m.i1 = v at c1 hi1 ⊢
    go_enter Tryz.func109, Tryz.ntmps109
    go_wp2_with (go_at_call 117; refine (vpush_new h S (v := v) (by omega)).mono ?_; rintro e w' ⟨rfl, S2⟩)
    go_end0
    exact ⟨rfl, S2⟩

set_option maxRecDepth 100000 in
theorem frame_any {W0 w : World} {L : List Asn} {p : Nat} {m : VM} (h : m.s.cells.length = 16) (S : Sat W0 w (Mc p m :: L)) (_hb : m.st.length ≤ 800) (hf : 0 ≤ m.s.frame ∧ m.s.frame ≤ 600) (arg : Int) :
    Calls Tryz.prog 110 #[.pointer (some ⟨p, 0, none⟩), .int .i64 arg] w fun e w' => e = .returned (.tuple #[]) ∧ Sat W0 w' (Mc p (m.push m.s.frame) :: L) := by
  obtain ⟨ao, cap, S'⟩ := Mc_open.1 S
  have c0 := (mc_at h S').frame
  generalize m.s.frame = v at c0 hf ⊢
  go_enter Tryz.func110, Tryz.ntmps110
  go_wp2_with (go_at_call 117; refine (vpush_new h S (v := v) (by omega)).mono ?_; rintro e w' ⟨rfl, S2⟩)
  go_end0
  exact ⟨rfl, S2⟩

set_option maxRecDepth 100000 in
theorem jump_any {W0 w : World} {L : List Asn} {p : Nat} {m : VM} (h : m.s.cells.length = 16) (S : Sat W0 w (Mc p m :: L)) (_hb : m.st.length ≤ 800) (arg : Int) :
    Calls Tryz.prog 111 #[.pointer (some ⟨p, 0, none⟩), .int .i64 arg] w fun e w' => e = .returned (.tuple #[]) ∧ Sat W0 w' (Mc p ({ m with pc := arg }) :: L) := by
  obtain ⟨ao, cap, S'⟩ := Mc_open.1 S
  have c0 := (mc_at h S').pc
  have f0 := (mc_at h S').free 23
  have S2 := mc_pc h S' arg
  go_enter Tryz.func111, Tryz.ntmps111
  go_wp2_with fail
  go_end0
  exact ⟨rfl, Mc_open.2 ⟨ao, cap, S2⟩⟩

set_option maxRecDepth 100000 in
theorem halt_any {W0 w : World} {L : List Asn} {p : Nat} {m : VM} (h : m.s.cells.length = 16) (S : Sat W0 w (Mc p m :: L)) (_hb : m.st.length ≤ 800) (arg : Int) :
    Calls Tryz.prog 115 #[.pointer (some ⟨p, 0, none⟩), .int .i64 arg] w fun e w' => e = .returned (.tuple #[]) ∧ Sat W0 w' (Mc p ({ m with ended := true }) :: L) := by
  obtain ⟨ao, cap, S'⟩ := Mc_open.1 S
  have c0 := (mc_at h S').ended
  have f0 := (mc_at h S').free 24
  have S2 := mc_ended h S' true
  go_enter Tryz.func115, Tryz.ntmps115
  go_wp2_with fail
  go_end0
  exact ⟨rfl, Mc_open.2 ⟨ao, cap, S2⟩⟩

set_option maxRecDepth 100000 in
theorem win_any {W0 w : World} {L : List Asn} {p : Nat} {m : VM} (h : m.s.cells.length = 16) (S : Sat W0 w (Mc p m :: L)) (_hb : m.st.length ≤ 800) (arg : Int) :
    Calls Tryz.prog 113 #[.pointer (some ⟨p, 0, none⟩), .int .i64 arg] w fun e w' => e = .returned (.tuple #[]) ∧ Sat W0 w' (Mc p ({ m with s := { m.s with over := true, winner := arg }, ended := true }) :: L) := by
  obtain ⟨ao, cap, S'⟩ := Mc_open.1 S
  have hM := mc_at h S'
  have c0 := hM.over
  have c1 := hM.winner
  have c2 := hM.ended
  have f0 := hM.free 18
  have f1 := hM.free 19
  have f2 := hM.free 24
  have S2 := mc_ended (by exact h) (mc_winner (by exact h) (mc_over h S' true) arg) true
  clear hM
  go_enter Tryz.func113, Tryz.ntmps113
  go_wp2_with fail
  go_end0
  exact ⟨rfl, Mc_open.2 ⟨ao, cap, S2⟩⟩

set_option maxRecDepth 100000 in
theorem drop_any {W0 w : World} {L : List Asn} {p : Nat} {m : VM} (h : m.s.cells.length = 16) (S : Sat W0 w (Mc p m :: L)) (_hb : m.st.length ≤ 800) (arg : Int) :
    Calls Tryz.prog 108 #[.pointer (some ⟨p, 0, none⟩), .int .i64 arg] w fun e w' => e = .returned (.tuple #[]) ∧ Sat W0 w' (Mc p (m.pop.2) :: L) := by
  obtain ⟨v, m', hp⟩ : ∃ v m', m.pop = (v, m') := ⟨_, _, rfl⟩
  have HP := Lib.hid hp
  clear hp
  go_enter Tryz.func108, Tryz.ntmps108
  go_wp2_with (go_at_call 118; refine (vpop_any h S HP.out).mono ?_; rintro e w' ⟨rfl, S2⟩)
  go_end0
  refine ⟨rfl, ?_⟩
  rw [HP.out]
  exact S2

theorem pop_len {m : VM} (h : m.s.cells.length = 16) {v : Int} {m' : VM} (hp : m.pop = (v, m')) : m'.s.cells.length = 16 ∧ m'.st.length ≤ m.st.length ∧ m'.s = m.s := by
  unfold VM.pop at hp
  split at hp
  · cases hp; exact ⟨h, by simp, rfl⟩
  · rename_i x r hs
    cases hp
    exact ⟨h, by rw [hs]; simp, rfl⟩
theorem pop_val {m : VM} (hs : ∀ c ∈ m.st, -2147483648 ≤ c ∧ c ≤ 2147483647) {v : Int} {m' : VM} (hp : m.pop = (v, m')) : (-2147483648 ≤ v ∧ v ≤ 2147483647) ∧ ∀ c ∈ m'.st, -2147483648 ≤ c ∧ c ≤ 2147483647 := by
  unfold VM.pop at hp
  split at hp
  · rename_i h0
    cases hp
    exact ⟨by omega, by simp [h0]⟩
  · rename_i x r h0
    cases hp
    rw [h0] at hs
    exact ⟨hs _ (by simp), fun c hc => hs c (by simp [hc])⟩

theorem vtruth_any (w : World) (b : Bool) : Calls Tryz.prog 121 #[.bool b] w fun e w' => e = .returned (.int .i32 (truth b)) ∧ w = w' := by
  cases b
  all_goals
    go_enter Tryz.func121, Tryz.ntmps121
    go_wp2_with fail
    go_ret
    exact ⟨rfl, rfl⟩

set_option maxRecDepth 100000 in
theorem not_any {W0 w : World} {L : List Asn} {p : Nat} {m : VM} (h : m.s.cells.length = 16) (S : Sat W0 w (Mc p m :: L)) (_hb : m.st.length ≤ 800) (arg : Int) {v : Int} {m' : VM} (hp : m.pop = (v, m')) :
    Calls Tryz.prog 105 #[.pointer (some ⟨p, 0, none⟩), .int .i64 arg] w fun e w' => e = .returned (.tuple #[]) ∧ Sat W0 w' (Mc p (m'.push (truth (decide (v = 0)))) :: L) := by
  obtain ⟨h1, h2, _⟩ := pop_len h hp
  have HP := Lib.hid hp
  clear hp
  by_cases hv : v = 0
  · subst hv
    rw [decide_eq_true rfl]
    go_enter Tryz.func105, Tryz.ntmps105
    go_wp2_with (first
      | (go_at_call 118; refine (vpop_any h S HP.out).mono ?_; rintro e w' ⟨rfl, S2⟩)
      | (go_at_call 121; refine (vtruth_any _ true).mono ?_; rintro e w' ⟨rfl, rfl⟩)
      | (go_at_call 117; refine (vpush_new h1 S2 (v := truth true) (by omega)).mono ?_; rintro e w' ⟨rfl, S3⟩))
    go_end0
    exact ⟨rfl, S3⟩
  · have hz : (v == 0) = false := by simpa using hv
    rw [decide_eq_false hv]
    go_enter Tryz.func105, Tryz.ntmps105
    go_wp2_with (first
      | (go_at_call 118; refine (vpop_any h S HP.out).mono ?_; rintro e w' ⟨rfl, S2⟩)
      | (go_at_call 121; refine (vtruth_any _ false).mono ?_; rintro e w' ⟨rfl, rfl⟩)
      | (go_at_call 117; refine (vpush_new h1 S2 (v := truth false) (by omega)).mono ?_; rintro e w' ⟨rfl, S3⟩))
    go_end0
    exact ⟨rfl, S3⟩

set_option maxRecDepth 100000 in
theorem dup_any {W0 w : World} {L : List Asn} {p : Nat} {m : VM} (h : m.s.cells.length = 16) (S : Sat W0 w (Mc p m :: L)) (_hb : m.st.length ≤ 800) (arg : Int) {v : Int} {m' : VM} (hp : m.pop = (v, m')) :
    Calls Tryz.prog 106 #[.pointer (some ⟨p, 0, none⟩), .int .i64 arg] w fun e w' => e = .returned (.tuple #[]) ∧ Sat W0 w' (Mc p (m'.push2 v v) :: L) := by
  obtain ⟨h1, h2, _⟩ := pop_len h hp
  have HP := Lib.hid hp
  clear hp
  go_enter Tryz.func106, Tryz.ntmps106
  go_wp2_with (first
    | (go_at_call 118; refine (vpop_any h S HP.out).mono ?_; rintro e w' ⟨rfl, S2⟩)
    | (go_at_call 117; refine (vpush2_new h1 S2 (v := v) (u := v) (by omega)).mono ?_; rintro e w' ⟨rfl, S3⟩))
  go_end0
  exact ⟨rfl, S3⟩

set_option maxRecDepth 100000 in
theorem swap_any {W0 w : World} {L : List Asn} {p : Nat} {m : VM} (h : m.s.cells.length = 16) (S : Sat W0 w (Mc p m :: L)) (_hb : m.st.length ≤ 800) (arg : Int) {v u : Int} {m' m2 : VM} (hp : m.pop = (v, m')) (hq : m'.pop = (u, m2)) :
    Calls Tryz.prog 107 #[.pointer (some ⟨p, 0, none⟩), .int .i64 arg] w fun e w' => e = .returned (.tuple #[]) ∧ Sat W0 w' (Mc p (m2.push2 v u) :: L) := by
  obtain ⟨h1, h2, _⟩ := pop_len h hp
  obtain ⟨h3, h4, _⟩ := pop_len h1 hq
  have HP := Lib.hid hp
  have HQ := Lib.hid hq
  clear hp hq
  go_enter Tryz.func107, Tryz.ntmps107
  go_wp2_with (first
    | (go_at_call 118; refine (vpop_any h1 S2 HQ.out).mono ?_; rintro e w' ⟨rfl, S3⟩)
    | (go_at_call 118; refine (vpop_any h S HP.out).mono ?_; rintro e w' ⟨rfl, S2⟩)
    | (go_at_call 117; refine (vpush2_new h3 S3 (v := v) (u := u) (by omega)).mono ?_; rintro e w' ⟨rfl, S4⟩))
  go_end0
  exact ⟨rfl, S4⟩

set_option maxRecDepth 100000 in
theorem zero_any {W0 w : World} {L : List Asn} {p : Nat} {m : VM} (h : m.s.cells.length = 16) (S : Sat W0 w (Mc p m :: L)) (_hb : m.st.length ≤ 800) (arg : Int) {v : Int} {m' : VM} (hp : m.pop = (v, m')) :
    Calls Tryz.prog 112 #[.pointer (some ⟨p, 0, none⟩), .int .i64 arg] w fun e w' => e = .returned (.tuple #[]) ∧ Sat W0 w' (Mc p (if v = 0 then { m' with pc := arg } else m') :: L) := by
  obtain ⟨h1, h2, _⟩ := pop_len h hp
  have HP := Lib.hid hp
  clear hp
  by_cases hv : v = 0
  · subst hv
    rw [if_pos rfl]
    go_enter Tryz.func112, Tryz.ntmps112
    go_wp2_with (go_at_call 118; refine (vpop_any h S HP.out).mono ?_; rintro e w' ⟨rfl, S2⟩; obtain ⟨ao, cap, S'⟩ := Mc_open.1 S2; have c0 := (mc_at h1 S').pc; have f0 := (mc_at h1 S').free 23; have S3 := mc_pc h1 S' arg)
    go_end0
    exact ⟨rfl, Mc_open.2 ⟨ao, cap, S3⟩⟩
  · have hz : (v == 0) = false := by simpa using hv
    rw [if_neg hv]
    go_enter Tryz.func112, Tryz.ntmps112
    go_wp2_with (go_at_call 118; refine (vpop_any h S HP.out).mono ?_; rintro e w' ⟨rfl, S2⟩)
    go_end0
    exact ⟨rfl, S2⟩

set_option maxRecDepth 100000 in
theorem store_any {W0 w : World} {L : List Asn} {p : Nat} {m : VM} (h : m.s.cells.length = 16) (S : Sat W0 w (Mc p m :: L)) (_hb : m.st.length ≤ 800) (k : Nat) (hk : k < 16) {v : Int} {m' : VM} (hp : m.pop = (v, m')) :
    Calls Tryz.prog 95 #[.pointer (some ⟨p, 0, none⟩), .int .i64 k] w fun e w' => e = .returned (.tuple #[]) ∧ Sat W0 w' (Mc p ({ m' with s := { m'.s with cells := m'.s.cells.set k v } }) :: L) := by
  obtain ⟨h1, h2, _⟩ := pop_len h hp
  have HP := Lib.hid hp
  have k0 : (0 : Int) ≤ (k : Int) := Int.natCast_nonneg _
  have k1 : (k : Int) < 16 := by omega
  clear hp
  go_enter Tryz.func95, Tryz.ntmps95
  go_region_with (go_at_call 118; refine (vpop_any h S.drew HP.out).mono ?_; rintro e w' ⟨rfl, S2⟩; obtain ⟨ao, cap, S'⟩ := Mc_open.1 S2; have c0 := (mc_at h1 S').cells k hk; have f0 := (mc_at h1 S').free (1 + k); have S3 := mc_set h1 S' hk v)
  all_goals
    go_wp2_with fail
    go_end0
    exact ⟨rfl, Mc_open.2 ⟨ao, cap, S3⟩⟩

theorem xor32_bd {x y : Int} (hx : 0 ≤ x ∧ x < 4294967296) (hy : 0 ≤ y ∧ y < 4294967296) : 0 ≤ bits .xor .u32 x y ∧ bits .xor .u32 x y < 4294967296 := by
  rw [u32_xor _ _ hx.1 hx.2 hy.1 hy.2]
  have := Nat.xor_lt_two_pow (n := 32) (show x.toNat < 2 ^ 32 by omega) (show y.toNat < 2 ^ 32 by omega)
  omega

set_option maxRecDepth 100000 in
theorem rand_any {W0 w : World} {L : List Asn} {p : Nat} {m : VM} (h : m.s.cells.length = 16) (S : Sat W0 w (Mc p m :: L)) (_hb : m.st.length ≤ 800) (hs : 0 ≤ m.s.seed ∧ m.s.seed < 4294967296) (arg : Int) :
    Calls Tryz.prog 114 #[.pointer (some ⟨p, 0, none⟩), .int .i64 arg] w fun e w' => e = .returned (.tuple #[]) ∧ Sat W0 w' (Mc p (VM.push { m with s := { m.s with seed := nextSeed m.s.seed } } (nextSeed m.s.seed % 65536)) :: L) := by
  obtain ⟨ao, cap, S'⟩ := Mc_open.1 S
  have c0 := (mc_at h S').seed
  have f0 := (mc_at h S').free 17
  obtain ⟨x1, hx1⟩ : ∃ x1, bits .xor .u32 m.s.seed (m.s.seed * 8192 % 4294967296) = x1 := ⟨_, rfl⟩
  obtain ⟨x2, hx2⟩ : ∃ x2, bits .xor .u32 x1 (x1 / 131072) = x2 := ⟨_, rfl⟩
  obtain ⟨x3, hx3⟩ : ∃ x3, bits .xor .u32 x2 (x2 * 32 % 4294967296) = x3 := ⟨_, rfl⟩
  have b1 : 0 ≤ x1 ∧ x1 < 4294967296 := by rw [← hx1]; exact xor32_bd hs (by omega)
  have b2 : 0 ≤ x2 ∧ x2 < 4294967296 := by rw [← hx2]; exact xor32_bd b1 (by omega)
  have b3 : 0 ≤ x3 ∧ x3 < 4294967296 := by rw [← hx3]; exact xor32_bd b2 (by omega)
  have hn : nextSeed m.s.seed = x3 := by unfold nextSeed xs13 xs17 xs5; rw [hx1, hx2, hx3]
  have S2 := Mc_open.2 ⟨ao, cap, mc_seed h S' x3⟩
  rw [hn]
  clear hn
  go_enter Tryz.func114, Tryz.ntmps114
  go_wp2_with (go_at_call 117; refine (vpush_at (m := { m with s := { m.s with seed := x3 } }) (v := x3 % 65536) h S2 (by show m.st.length ≤ 900; omega) (by simp [World.setCell])).mono ?_; rintro e w' ⟨rfl, S3⟩)
  go_end0
  exact ⟨rfl, S3⟩
end Go.Proofs.YtjdeeloemhjbhaaGreat
