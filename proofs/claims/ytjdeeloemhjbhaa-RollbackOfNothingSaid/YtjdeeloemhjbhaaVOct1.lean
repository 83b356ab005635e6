/-
  octet: the Writer's methods, each as a contract over the call's own heap.
-/
import Derived.Test.YtjdeeloemhjbhaaRows
import Derived.Test.YtjdeeloemhjbhaaSlice
import Derived.Test.YtjdeeloemhjbhaaOctP
namespace Go.Proofs.Ytjdeeloemhjbhaa
open Go.RowKit Go.Sep Go.Oct

def bv (bs : List Int) : List Value := bs.map (Value.int .u8)
theorem bv_append (a b : List Int) : bv (a ++ b) = bv a ++ bv b := by simp [bv]
theorem bv_length (a : List Int) : (bv a).length = a.length := by simp [bv]
theorem bv_one (a : List Int) : ∀ u ∈ bv a, u.oneCell' = true := by
  intro u hu
  simp only [bv, List.mem_map] at hu
  obtain ⟨x, _, rfl⟩ := hu
  rfl

theorem Try.infoB : (Try.prog.info? 5).map (fun i => (i.zero, i.size, i.bytes)) = some (some (.int .u8 0), 1, 1) := by kernel_rfl

/-- a slice of bytes of the call's own -/
def sbs (ao : Option Addr) (n cap : Nat) (bs : List Int) : Asn := slc 5 1 ao n cap (bv bs)

def Wr (p : Nat) (bs : List Int) : Asn := exA fun (r : Option Addr × Nat) => star (blk p [.slice r.1 bs.length r.2] 97) (sbs r.1 bs.length r.2 bs)

theorem Wr_open {W0 w : World} {L : List Asn} {p : Nat} {bs : List Int} : Sat W0 w (Wr p bs :: L) ↔ ∃ ao cap, Sat W0 w (blk p [.slice ao bs.length cap] 97 :: sbs ao bs.length cap bs :: L) := by
  unfold Wr
  constructor
  · intro h
    obtain ⟨⟨ao, cap⟩, h⟩ := Sat.ex.1 h
    exact ⟨ao, cap, Sat.star.1 h⟩
  · rintro ⟨ao, cap, h⟩
    exact Sat.ex.2 ⟨(ao, cap), Sat.star.2 h⟩

set_option maxRecDepth 100000 in
theorem put_any {W0 w : World} {L : List Asn} {p : Nat} {bs : List Int} (S : Sat W0 w (Wr p bs :: L)) {lo : Option Addr} {m c : Nat} {xs : List Int} (hR : Rd w lo (bv xs)) (hm : xs.length = m) (hb : bs.length + m ≤ 1099511627776) :
    Calls Try.prog 56 #[.pointer (some ⟨p, 0, none⟩), .slice lo m c] w fun e w' => e = .returned (.tuple #[]) ∧ Sat W0 w' (Wr p (bs ++ xs) :: L) := by
  obtain ⟨ao, cap, S⟩ := Wr_open.1 S
  obtain ⟨i0, hi, hz0, hz1, hz2⟩ := info_parts Try.infoB
  have c0 := S.cell 0 rfl 0
  have f0 := S.frozen 0 rfl 0
  simp at c0
  go_enter Try.func56, Try.ntmps56
  go_wp2_with (at_builtin; refine wpList_append_sat rfl _ _ _ rfl 5 i0 (.int .u8 0) 1 1 Try.underlying79 hi hz0 hz1 hz2 rfl (by decide) (S.bring 1) rfl rfl hR (by simp [bv_length, hm]) (bv_one _) (by unfold maxLen; omega) (by omega) ?_; intro ao' cap' w' S'; have c1 := S'.cell 1 rfl 0; have f1 := S'.frozen 1 rfl 0; simp only [List.getElem?_cons_zero] at c1)
  go_end0
  refine ⟨rfl, Wr_open.2 ⟨ao', cap', ?_⟩⟩
  have S2 := (S'.setCell (k := 0) (v := .slice ao' (bs.length + m) cap') 1 rfl).bring 1
  simpa [sbs, bv_append, hm, Sep.bring] using S2


/-- put, of bytes that lie in the newest block -/
theorem put_lit {W0 w : World} {L : List Asn} {p : Nat} {bs xs : List Int} (S : Sat W0 w (Wr p bs :: L)) (hb : bs.length + xs.length ≤ 1099511627776) :
    Calls Try.prog 56 #[.pointer (some ⟨p, 0, none⟩), .slice (some ⟨w.heap.size, 0, none⟩) xs.length xs.length] (w.alloc (.cells (bv xs).toArray 5)) fun e w' => e = .returned (.tuple #[]) ∧ Sat W0 w' (Wr p (bs ++ xs) :: L) :=
  (put_any ((S.alloc (bv xs) 5).bring 1) (Rd.lit (heap_alloc_new w _)) rfl hb).mono fun _ _ ⟨h1, h2⟩ => ⟨h1, (h2.bring 1).tail⟩

/-- put, of the cells of the newest block, whatever its type -/
theorem put_new {W0 w : World} {L : List Asn} {p : Nat} {bs xs : List Int} {e : TypeId} {n : Nat} (S : Sat W0 w (Wr p bs :: L)) (hn : xs.length = n) (hb : bs.length + n ≤ 1099511627776) :
    Calls Try.prog 56 #[.pointer (some ⟨p, 0, none⟩), .slice (some ⟨w.heap.size, 0, none⟩) n n] (w.alloc (.cells (bv xs).toArray e)) fun e w' => e = .returned (.tuple #[]) ∧ Sat W0 w' (Wr p (bs ++ xs) :: L) :=
  (put_any ((S.alloc (bv xs) e).bring 1) (Rd.lit (heap_alloc_new w _)) hn hb).mono fun _ _ ⟨h1, h2⟩ => ⟨h1, (h2.bring 1).tail⟩

set_option maxRecDepth 100000 in
theorem put_none (w : World) (v : Value) : Calls Try.prog 56 #[.pointer none, v] w fun e w' => e = .returned (.tuple #[]) ∧ w = w' := by
  go_enter Try.func56, Try.ntmps56
  go_wp2_with fail
  go_end0
  exact ⟨rfl, rfl⟩

theorem wFour_any {W0 w : World} {L : List Asn} {p : Nat} {bs : List Int} (S : Sat W0 w (Wr p bs :: L)) (v : Int) (h0 : 0 ≤ v) (h1 : v < 4294967296) (hb : bs.length ≤ 1000000000000) :
    Calls Try.prog 44 #[.pointer (some ⟨p, 0, none⟩), .int .u32 v] w fun e w' => e = .returned (.tuple #[]) ∧ Sat W0 w' (Wr p (bs ++ [v % 256, v / 256 % 256, v / 65536 % 256, v / 16777216]) :: L) := by
  go_enter Try.func44, Try.ntmps44
  go_wp2_with (go_at_call 56; refine (put_new (n := 4) (xs := [v % 256, v / 256 % 256, v / 65536 % 256, v / 16777216]) S rfl (by omega)).mono ?_; rintro e w' ⟨rfl, S'⟩)
  go_end0
  exact ⟨rfl, S'⟩

theorem wByte_any {W0 w : World} {L : List Asn} {p : Nat} {bs : List Int} (S : Sat W0 w (Wr p bs :: L)) (v : Int) (hb : bs.length ≤ 1000000000000) :
    Calls Try.prog 45 #[.pointer (some ⟨p, 0, none⟩), .int .u8 v] w fun e w' => e = .returned (.tuple #[]) ∧ Sat W0 w' (Wr p (bs ++ [v]) :: L) := by
  go_enter Try.func45, Try.ntmps45
  go_wp2_with (go_at_call 56; refine (put_new (n := 1) (xs := [v]) S rfl (by omega)).mono ?_; rintro e w' ⟨rfl, S'⟩)
  go_end0
  exact ⟨rfl, S'⟩

set_option maxRecDepth 100000 in
theorem wNum_any {W0 w : World} {L : List Asn} {p : Nat} {bs : List Int} (S : Sat W0 w (Wr p bs :: L)) (v : Int) (h0 : -9223372036854775808 ≤ v) (h1 : v < 9223372036854775808) (hb : bs.length ≤ 1000000000000) :
    Calls Try.prog 43 #[.pointer (some ⟨p, 0, none⟩), .int .i64 v] w fun e w' => e = .returned (.tuple #[]) ∧ Sat W0 w' (Wr p (bs ++ num v) :: L) := by
  by_cases hv : 0 ≤ v
  all_goals
    go_enter Try.func43, Try.ntmps43
    go_wp2_with fail
    first | rw [zig_pos hv (by omega)] | rw [zig_neg (by omega) (by omega)]
    go_loopw [4] (fun u wr => ∃ n x ys, u = .int .u64 x ∧ Sat W0 wr (Wr p ys :: L) ∧ Hid (ys ++ digs n x = bs ++ num v) ∧ 0 ≤ x ∧ x < 18446744073709551616 ∧ Hid (x < 128 ^ (n + 1)) ∧ ys.length + n ≤ bs.length + 9) (fun u _ => (intOf u).toNat)
    case atStart => exact ⟨9, zig v, bs, rfl, S, rfl, zig_lo v, zig_hi h0 h1, by have := zig_hi h0 h1; show zig v < 1180591620717411303424; omega, by omega⟩
    case round =>
      obtain ⟨n, x, ys, rfl, S', he, hx0, hx1, hxn, hyl⟩ := hrel
      by_cases h128 : 128 ≤ x
      · go_wp2_with (go_at_call 56; refine (put_new (n := 1) (xs := [bits .or .u8 (x % 256) 128]) S' rfl (by omega)).mono ?_; rintro e w' ⟨rfl, S2⟩)
        rw [or128] at S2
        cases n with
        | zero => exact absurd hxn.out (by show ¬ x < 128; omega)
        | succ n =>
          have hyl' : (ys ++ [x % 128 + 128]).length + n ≤ bs.length + 9 := by simp; omega
          have he' : Hid ((ys ++ [x % 128 + 128]) ++ digs n (x / 128) = bs ++ num v) := by have := he.out; rw [digs_ge n h128] at this; show _ = _; rw [← this]; simp
          have hxn' : Hid (x / 128 < 128 ^ (n + 1)) := pow_step hxn.out
          go_roundw
          case rel => exact ⟨n, x / 128, _, rfl, S2, he', by omega, by omega, hxn', hyl'⟩
          case measure => simp [intOf]; omega
      · go_wp2_with (go_at_call 56; refine (put_new (n := 1) (xs := [x]) S' rfl (by omega)).mono ?_; rintro e w' ⟨rfl, S2⟩)
        go_end0
        refine ⟨rfl, ?_⟩
        rw [← he.out, digs_lt n h128]; exact S2
end Go.Proofs.Ytjdeeloemhjbhaa
