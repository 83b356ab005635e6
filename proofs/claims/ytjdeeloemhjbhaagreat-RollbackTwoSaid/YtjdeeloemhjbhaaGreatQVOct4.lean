/-
  VOct1, VOct2, VOct3, VOct4 in one text (wip/tools/squeeze.py)
-/
import Derived.Test.YtjdeeloemhjbhaaGreatRows
import Derived.Test.YtjdeeloemhjbhaaGreatSlice
import Derived.Test.YtjdeeloemhjbhaaGreatQOctP

section
namespace Go.Proofs.YtjdeeloemhjbhaaGreat
open Go.RowKit Go.Sep Go.Oct

def bv (bs : List Int) : List Value := bs.map (Value.int .u8)
theorem bv_append (a b : List Int) : bv (a ++ b) = bv a ++ bv b := by simp [bv]
theorem bv_length (a : List Int) : (bv a).length = a.length := by simp [bv]
theorem bv_one (a : List Int) : ∀ u ∈ bv a, u.oneCell' = true := by
  intro u hu
  simp only [bv, List.mem_map] at hu
  obtain ⟨x, _, rfl⟩ := hu
  rfl

theorem Tryz.infoB : (Tryz.prog.info? 5).map (fun i => (i.zero, i.size, i.bytes)) = some (some (.int .u8 0), 1, 1) := by kernel_rfl

/-- a slice of bytes of the call's own -/
def sbs (ao : Option Addr) (n cap : Nat) (bs : List Int) : Asn := slc 5 1 ao n cap (bv bs)

def Wr (p : Nat) (bs : List Int) : Asn := exA fun (r : Option Addr × Nat) => star (blk p [.slice r.1 bs.length r.2] 130) (sbs r.1 bs.length r.2 bs)

theorem Wr_open {W0 w : World} {L : List Asn} {p : Nat} {bs : List Int} : Sat W0 w (Wr p bs :: L) ↔ ∃ ao cap, Sat W0 w (blk p [.slice ao bs.length cap] 130 :: sbs ao bs.length cap bs :: L) := by
  unfold Wr
  constructor
  · intro h
    obtain ⟨⟨ao, cap⟩, h⟩ := Sat.ex.1 h
    exact ⟨ao, cap, Sat.star.1 h⟩
  · rintro ⟨ao, cap, h⟩
    exact Sat.ex.2 ⟨(ao, cap), Sat.star.2 h⟩

set_option maxRecDepth 100000 in
theorem put_any {W0 w : World} {L : List Asn} {p : Nat} {bs : List Int} (S : Sat W0 w (Wr p bs :: L)) {lo : Option Addr} {m c : Nat} {xs : List Int} (hR : Rd w lo (bv xs)) (hm : xs.length = m) (hb : bs.length + m ≤ 1099511627776) :
    Calls Tryz.prog 79 #[.pointer (some ⟨p, 0, none⟩), .slice lo m c] w fun e w' => e = .returned (.tuple #[]) ∧ Sat W0 w' (Wr p (bs ++ xs) :: L) := by
  obtain ⟨ao, cap, S⟩ := Wr_open.1 S
  obtain ⟨i0, hi, hz0, hz1, hz2⟩ := info_parts Tryz.infoB
  have c0 := S.cell 0 rfl 0
  have f0 := S.frozen 0 rfl 0
  simp at c0
  go_enter Tryz.func79, Tryz.ntmps79
  go_wp2_with (at_builtin; refine wpList_append_sat rfl _ _ _ rfl 5 i0 (.int .u8 0) 1 1 Tryz.underlying106 hi hz0 hz1 hz2 rfl (by decide) (S.bring 1) rfl rfl hR (by simp [bv_length, hm]) (bv_one _) (by unfold maxLen; omega) (by omega) ?_; intro ao' cap' w' S'; have c1 := S'.cell 1 rfl 0; have f1 := S'.frozen 1 rfl 0; simp only [List.getElem?_cons_zero] at c1)
  go_end0
  refine ⟨rfl, Wr_open.2 ⟨ao', cap', ?_⟩⟩
  have S2 := (S'.setCell (k := 0) (v := .slice ao' (bs.length + m) cap') 1 rfl).bring 1
  simpa [sbs, bv_append, hm, Sep.bring] using S2


/-- put, of bytes that lie in the newest block -/
theorem put_lit {W0 w : World} {L : List Asn} {p : Nat} {bs xs : List Int} (S : Sat W0 w (Wr p bs :: L)) (hb : bs.length + xs.length ≤ 1099511627776) :
    Calls Tryz.prog 79 #[.pointer (some ⟨p, 0, none⟩), .slice (some ⟨w.heap.size, 0, none⟩) xs.length xs.length] (w.alloc (.cells (bv xs).toArray 5)) fun e w' => e = .returned (.tuple #[]) ∧ Sat W0 w' (Wr p (bs ++ xs) :: L) :=
  (put_any ((S.alloc (bv xs) 5).bring 1) (Rd.lit (heap_alloc_new w _)) rfl hb).mono fun _ _ ⟨h1, h2⟩ => ⟨h1, (h2.bring 1).tail⟩

/-- put, of the cells of the newest block, whatever its type -/
theorem put_new {W0 w : World} {L : List Asn} {p : Nat} {bs xs : List Int} {e : TypeId} {n : Nat} (S : Sat W0 w (Wr p bs :: L)) (hn : xs.length = n) (hb : bs.length + n ≤ 1099511627776) :
    Calls Tryz.prog 79 #[.pointer (some ⟨p, 0, none⟩), .slice (some ⟨w.heap.size, 0, none⟩) n n] (w.alloc (.cells (bv xs).toArray e)) fun e w' => e = .returned (.tuple #[]) ∧ Sat W0 w' (Wr p (bs ++ xs) :: L) :=
  (put_any ((S.alloc (bv xs) e).bring 1) (Rd.lit (heap_alloc_new w _)) hn hb).mono fun _ _ ⟨h1, h2⟩ => ⟨h1, (h2.bring 1).tail⟩

set_option maxRecDepth 100000 in
theorem put_none (w : World) (v : Value) : Calls Tryz.prog 79 #[.pointer none, v] w fun e w' => e = .returned (.tuple #[]) ∧ w = w' := by
  go_enter Tryz.func79, Tryz.ntmps79
  go_wp2_with fail
  go_end0
  exact ⟨rfl, rfl⟩

theorem wFour_any {W0 w : World} {L : List Asn} {p : Nat} {bs : List Int} (S : Sat W0 w (Wr p bs :: L)) (v : Int) (h0 : 0 ≤ v) (h1 : v < 4294967296) (hb : bs.length ≤ 1000000000000) :
    Calls Tryz.prog 65 #[.pointer (some ⟨p, 0, none⟩), .int .u32 v] w fun e w' => e = .returned (.tuple #[]) ∧ Sat W0 w' (Wr p (bs ++ [v % 256, v / 256 % 256, v / 65536 % 256, v / 16777216]) :: L) := by
  go_enter Tryz.func65, Tryz.ntmps65
  go_wp2_with (go_at_call 79; refine (put_new (n := 4) (xs := [v % 256, v / 256 % 256, v / 65536 % 256, v / 16777216]) S rfl (by omega)).mono ?_; rintro e w' ⟨rfl, S'⟩)
  go_end0
  exact ⟨rfl, S'⟩

theorem wByte_any {W0 w : World} {L : List Asn} {p : Nat} {bs : List Int} (S : Sat W0 w (Wr p bs :: L)) (v : Int) (hb : bs.length ≤ 1000000000000) :
    Calls Tryz.prog 66 #[.pointer (some ⟨p, 0, none⟩), .int .u8 v] w fun e w' => e = .returned (.tuple #[]) ∧ Sat W0 w' (Wr p (bs ++ [v]) :: L) := by
  go_enter Tryz.func66, Tryz.ntmps66
  go_wp2_with (go_at_call 79; refine (put_new (n := 1) (xs := [v]) S rfl (by omega)).mono ?_; rintro e w' ⟨rfl, S'⟩)
  go_end0
  exact ⟨rfl, S'⟩

set_option maxRecDepth 100000 in
theorem wNum_any {W0 w : World} {L : List Asn} {p : Nat} {bs : List Int} (S : Sat W0 w (Wr p bs :: L)) (v : Int) (h0 : -9223372036854775808 ≤ v) (h1 : v < 9223372036854775808) (hb : bs.length ≤ 1000000000000) :
    Calls Tryz.prog 64 #[.pointer (some ⟨p, 0, none⟩), .int .i64 v] w fun e w' => e = .returned (.tuple #[]) ∧ Sat W0 w' (Wr p (bs ++ num v) :: L) := by
  by_cases hv : 0 ≤ v
  all_goals
    go_enter Tryz.func64, Tryz.ntmps64
    go_wp2_with fail
    first | rw [zig_pos hv (by omega)] | rw [zig_neg (by omega) (by omega)]
    go_loopw [4] (fun u wr => ∃ n x ys, u = .int .u64 x ∧ Sat W0 wr (Wr p ys :: L) ∧ Hid (ys ++ digs n x = bs ++ num v) ∧ 0 ≤ x ∧ x < 18446744073709551616 ∧ Hid (x < 128 ^ (n + 1)) ∧ ys.length + n ≤ bs.length + 9) (fun u _ => (intOf u).toNat)
    case atStart => exact ⟨9, zig v, bs, rfl, S, rfl, zig_lo v, zig_hi h0 h1, by have := zig_hi h0 h1; show zig v < 1180591620717411303424; omega, by omega⟩
    case round =>
      obtain ⟨n, x, ys, rfl, S', he, hx0, hx1, hxn, hyl⟩ := hrel
      by_cases h128 : 128 ≤ x
      · go_wp2_with (go_at_call 79; refine (put_new (n := 1) (xs := [bits .or .u8 (x % 256) 128]) S' rfl (by omega)).mono ?_; rintro e w' ⟨rfl, S2⟩)
        rw [or128] at S2
        cases n with
        | zero => exact absurd hxn.out (by show ¬ x < 128; omega)
        | succ n =>
          have hyl' : (ys ++ [x % 128 + 128]).length + n ≤ bs.length + 9 := by simp; omega
          have he' : Hid ((ys ++ [x % 128 + 128]) ++ digs n (x / 128) = bs ++ num v) := by have := he.out; rw [digs_ge n h128] at this; show _ = _; rw [← this]; simp
          have hxn' : Hid (x / 128 < 128 ^ (n + 1)) := pow_step hxn.out
          go_roundw
          case rel => exact ⟨n, x / 128, _, rfl, S2, he', by omega, by omega, hxn', hyl'⟩
          case measure => simp [intOf]; omega
      · go_wp2_with (go_at_call 79; refine (put_new (n := 1) (xs := [x]) S' rfl (by omega)).mono ?_; rintro e w' ⟨rfl, S2⟩)
        go_end0
        refine ⟨rfl, ?_⟩
        rw [← he.out, digs_lt n h128]; exact S2
end Go.Proofs.YtjdeeloemhjbhaaGreat
end

section
namespace Go.Proofs.YtjdeeloemhjbhaaGreat
open Go.RowKit Go.Sep Go.Oct

theorem Sat.sbs_new {W0 w : World} {L : List Asn} {g n : Nat} {bs : List Int} {post : List Value} (h : Sat W0 w (blk g (bv bs ++ post) 5 :: L)) (hn : bs.length = n) {cap : Nat} (h2 : n ≤ cap) (h3 : cap ≤ maxLen)
    (h4 : cap - n ≤ post.length) : Sat W0 w (sbs (some ⟨g, 0, none⟩) n cap bs :: L) :=
  Sat.own_new h (by simp [bv_length, hn]) h2 h3 (by omega)

set_option maxRecDepth 100000 in
theorem clone_nil (w : World) : Calls Tryz.prog 75 #[.slice none 0 0] w fun e w' => e = .returned (.slice none 0 0) ∧ w = w' := by
  have he := Lib.run_eql_slice_nil (P := Tryz.prog) w 106 5 none 0 0 0 0 Tryz.underlying106
  go_enter Tryz.func75, Tryz.ntmps75
  go_wp2_with fail
  go_ret
  exact ⟨rfl, rfl⟩

/-- nothing that lay in the world has turned -/
def Keep (w w' : World) : Prop := ∀ k, k < w.heap.size → w'.heap[k]? = w.heap[k]?

set_option maxRecDepth 100000 in
theorem clone_some {W0 w : World} {L : List Asn} (S : Sat W0 w L) {a : Addr} {m c : Nat} {xs : List Int} (hR : Rd w (some a) (bv xs)) (hm : xs.length = m) (hb : m ≤ 1099511627776) :
    Calls Tryz.prog 75 #[.slice (some a) m c] w fun e w' => ∃ ao cap, e = .returned (.slice ao m cap) ∧ Sat W0 w' (sbs ao m cap xs :: L) := by
  obtain ⟨i0, hi, hz0, hz1, hz2⟩ := info_parts Tryz.infoB
  have he := Lib.run_eql_slice_nil (P := Tryz.prog) w 106 5 (some a) m c 0 0 Tryz.underlying106
  have S0 : Sat W0 (w.alloc (.cells #[] 5)) (slc 5 1 (some ⟨w.heap.size, 0, none⟩) 0 0 [] :: L) := Sat.own_new (post := []) (S.alloc [] 5) rfl (Nat.le_refl _) (by unfold maxLen; omega) (by simp)
  go_enter Tryz.func75, Tryz.ntmps75
  go_wp2_with (at_builtin; go_loud (refine wpList_append_sat rfl _ _ _ rfl 5 i0 (.int .u8 0) 1 1 Tryz.underlying106 hi hz0 hz1 hz2 rfl (by decide) S0 rfl rfl (hR.grow (fun k hk => Below.heap_alloc w _ k hk)) (by simp [bv_length, hm]) (bv_one _) (by unfold maxLen; omega) (by omega) ?_); intro ao' cap' w' S'; rw [Nat.zero_add] at S' ⊢)
  go_ret
  exact ⟨ao', cap', rfl, S'⟩

def Rr (p : Nat) (bs : List Int) (e : Int) : Asn := exA fun (r : Option Addr × Nat) => star (blk p [.slice r.1 bs.length r.2, .int .i64 e] 144) (sbs r.1 bs.length r.2 bs)

theorem Rr_open {W0 w : World} {L : List Asn} {p : Nat} {bs : List Int} {e : Int} : Sat W0 w (Rr p bs e :: L) ↔ ∃ ao cap, Sat W0 w (blk p [.slice ao bs.length cap, .int .i64 e] 144 :: sbs ao bs.length cap bs :: L) := by
  unfold Rr
  constructor
  · intro h
    obtain ⟨⟨ao, cap⟩, h⟩ := Sat.ex.1 h
    exact ⟨ao, cap, Sat.star.1 h⟩
  · rintro ⟨ao, cap, h⟩
    exact Sat.ex.2 ⟨(ao, cap), Sat.star.2 h⟩

set_option maxRecDepth 100000 in
theorem fail_any {W0 w : World} {L : List Asn} {p : Nat} {bs : List Int} {e0 : Int} (S : Sat W0 w (Rr p bs e0 :: L)) (e1 : Int) :
    Calls Tryz.prog 77 #[.pointer (some ⟨p, 0, none⟩), .int .i64 e1] w fun e w' => e = .returned (.tuple #[]) ∧ Sat W0 w' (Rr p [] e1 :: L) := by
  obtain ⟨ao, cap, S⟩ := Rr_open.1 S
  have c0 := S.cell 0 rfl 0
  have c1 := S.cell 0 rfl 1
  have f0 := S.frozen 0 rfl 0
  have f1 := S.frozen 0 rfl 1
  simp only [List.getElem?_cons_zero, List.getElem?_cons_succ] at c0 c1
  go_enter Tryz.func77, Tryz.ntmps77
  go_wp2_with fail
  go_end0
  refine ⟨rfl, Rr_open.2 ⟨none, 0, ?_⟩⟩
  have S2 := (S.setCell (k := 0) (v := .slice none 0 0) 0 rfl).setCell (k := 1) (v := .int .i64 e1) 0 rfl
  have S3 := (S2.bring 1).tail
  exact (((Sat.own_none (e := 5) (size := 1)).2 ⟨rfl, rfl, rfl, S3⟩).bring 1)

set_option maxRecDepth 100000 in
theorem take_err {W0 w : World} {L : List Asn} {p : Nat} {bs : List Int} {e0 : Int} (S : Sat W0 w (Rr p bs e0 :: L)) (n : Int) (he : e0 ≠ 0) :
    Calls Tryz.prog 76 #[.pointer (some ⟨p, 0, none⟩), .int .i64 n] w fun e w' => e = .returned (.slice none 0 0) ∧ w = w' := by
  obtain ⟨ao, cap, S⟩ := Rr_open.1 S
  have c1 := S.cell 0 rfl 1
  simp only [List.getElem?_cons_zero, List.getElem?_cons_succ] at c1
  have hne : (e0 != 0) = true := by simpa using he
  go_enter Tryz.func76, Tryz.ntmps76
  go_wp2_with fail
  go_ret
  exact ⟨rfl, rfl⟩

set_option maxRecDepth 100000 in
theorem take_short {W0 w : World} {L : List Asn} {p : Nat} {bs : List Int} (S : Sat W0 w (Rr p bs 0 :: L)) (n : Nat) (hn : bs.length < n) :
    Calls Tryz.prog 76 #[.pointer (some ⟨p, 0, none⟩), .int .i64 n] w fun e w' => e = .returned (.slice none 0 0) ∧ Sat W0 w' (Rr p [] 2 :: L) := by
  obtain ⟨ao, cap, S'⟩ := Rr_open.1 S
  have c0 := S'.cell 0 rfl 0
  have c1 := S'.cell 0 rfl 1
  simp only [List.getElem?_cons_zero, List.getElem?_cons_succ] at c0 c1
  go_enter Tryz.func76, Tryz.ntmps76
  go_wp2_with (go_at_call 77; refine (fail_any S 2).mono ?_; rintro e w' ⟨rfl, S2⟩)
  go_ret
  exact ⟨rfl, S2⟩

def Took (W0 : World) (L : List Asn) (p n : Nat) (bs : List Int) (e : Ending) (w' : World) : Prop :=
  ∃ ao c, e = .returned (.slice ao n c) ∧ Rd w' ao (bv (bs.take n)) ∧ (ao = none → c = 0) ∧ Sat W0 w' (Rr p (bs.drop n) 0 :: L)

set_option maxRecDepth 100000 in
theorem take_ok {W0 w : World} {L : List Asn} {p : Nat} {bs : List Int} (S : Sat W0 w (Rr p bs 0 :: L)) (n : Nat) (hn : n ≤ bs.length) (hn' : n ≤ 16777216) :
    Calls Tryz.prog 76 #[.pointer (some ⟨p, 0, none⟩), .int .i64 n] w (Took W0 L p n bs) := by
  obtain ⟨ao, cap, S'⟩ := Rr_open.1 S
  obtain ⟨hl1, hl2, hl3, hl4⟩ := (S'.bring 1).own_len
  unfold maxLen at hl3
  have c0 := S'.cell 0 rfl 0
  have c1 := S'.cell 0 rfl 1
  have f0 := S'.frozen 0 rfl 0
  simp only [List.getElem?_cons_zero, List.getElem?_cons_succ] at c0 c1
  cases ao with
  | none =>
    obtain ⟨h1, h2, h3, S2⟩ := Sat.own_none.1 (S'.bring 1)
    have hb0 : bs = [] := List.eq_nil_of_length_eq_zero h1
    subst hb0
    obtain rfl : n = 0 := by simpa using hn
    obtain rfl : cap = 0 := h2
    go_enter Tryz.func76, Tryz.ntmps76
    go_wp2_with fail
    go_ret
    refine ⟨none, 0, rfl, Rd.nil _ _, fun _ => rfl, Rr_open.2 ⟨none, 0, ?_⟩⟩
    have S3 := S2.setCell (k := 0) (v := .slice none 0 0) 0 rfl
    exact (Sat.own_none.2 ⟨rfl, rfl, rfl, S3⟩).swap
  | some a =>
    obtain ⟨b, pre, post, rfl, h1, h2, h3, h4, S2⟩ := Sat.own_some.1 S'.swap
    have hrd : ∀ v, Rd (w.setCell ⟨p, 0, none⟩ v) (some ⟨b, pre.length, none⟩) (bv (bs.take n)) := by
      intro v
      have hpb : p ≠ b := S2.ne [1, 0] rfl
      have h' := S'.swap.own_rd.take n
      intro j u hj
      refine ⟨b, pre.length, rfl, ?_⟩
      rw [World.cell?_setCell_other _ _ _ _ (fun e => hpb (congrArg Addr.block e))]
      exact h'.at (by simpa [bv] using hj)
    have e1 : pre ++ bv (bs.take n) ++ bv (bs.drop n) ++ post = pre ++ bv bs ++ post := by rw [List.append_assoc pre, ← bv_append, List.take_append_drop]
    by_cases hc : n = cap
    · subst hc
      have hbn : bs.length = n := by omega
      go_enter Tryz.func76, Tryz.ntmps76
      go_wp2_with fail
      go_ret
      refine ⟨some ⟨b, pre.length, none⟩, n, rfl, hrd _, (fun h => nomatch h), Rr_open.2 ⟨some ⟨b, pre.length, none⟩, 0, ?_⟩⟩
      have S3 := S2.setCell (k := 0) (v := (.slice (some ⟨b, pre.length, none⟩) 0 0)) 1 rfl
      have e2 : bs.drop n = [] := List.drop_eq_nil_of_le (by omega)
      rw [e2]
      exact ((Sat.own_some (e := 5) (size := 1)).2 ⟨b, pre, bv bs ++ post, rfl, rfl, by simp, by unfold maxLen; omega, by simp, by simpa [bv] using S3⟩).swap
    · go_enter Tryz.func76, Tryz.ntmps76
      go_wp2_with fail
      go_ret
      refine ⟨some ⟨b, pre.length, none⟩, cap, rfl, hrd _, (fun h => nomatch h), Rr_open.2 ⟨some ⟨b, pre.length + n, none⟩, cap - n, ?_⟩⟩
      have S3 := S2.setCell (k := 0) (v := (.slice (some ⟨b, pre.length + n, none⟩) (bs.length - n) (cap - n))) 1 rfl
      rw [List.length_drop]
      refine ((Sat.own_some (e := 5) (size := 1)).2 ⟨b, pre ++ bv (bs.take n), post, ?_, ?_, ?_, ?_, ?_, ?_⟩).swap
      · simp [bv_length]; omega
      · simp [bv_length]
      · omega
      · unfold maxLen; omega
      · omega
      · rw [e1]; exact S3
end Go.Proofs.YtjdeeloemhjbhaaGreat
end

section
namespace Go.Proofs.YtjdeeloemhjbhaaGreat
open Go.RowKit Go.Sep Go.Oct

def Taken (W0 : World) (L : List Asn) (p n : Nat) (bs : List Int) (e0 : Int) (e : Ending) (w' : World) : Prop :=
  ∃ ao c xs, Hid (xs = (tk n bs e0).1) ∧ e = .returned (.slice ao xs.length c) ∧ Rd w' ao (bv xs) ∧ (ao = none → c = 0) ∧ Sat W0 w' (Rr p (tk n bs e0).2.1 (tk n bs e0).2.2 :: L)

theorem take_any {W0 w : World} {L : List Asn} {p : Nat} {bs : List Int} {e0 : Int} (S : Sat W0 w (Rr p bs e0 :: L)) (n : Nat) (hn : n ≤ 16777216) :
    Calls Tryz.prog 76 #[.pointer (some ⟨p, 0, none⟩), .int .i64 n] w (Taken W0 L p n bs e0) := by
  by_cases he : e0 = 0
  · subst he
    by_cases hl : bs.length < n
    · refine (take_short S n hl).mono ?_
      rintro e w' ⟨rfl, S2⟩
      exact ⟨none, 0, [], by rw [tk_lt hl]; rfl, rfl, Rd.nil _ _, fun _ => rfl, by rw [tk_lt hl]; exact S2⟩
    · refine (take_ok S n (by omega) hn).mono ?_
      rintro e w' ⟨ao, c, rfl, hR, h0, S2⟩
      exact ⟨ao, c, bs.take n, by rw [tk_ge (by omega)]; rfl, by rw [List.length_take, Nat.min_eq_left (by omega)], hR, h0, by rw [tk_ge (by omega)]; exact S2⟩
  · refine (take_err S n he).mono ?_
    rintro e w' ⟨rfl, rfl⟩
    exact ⟨none, 0, [], by rw [tk_err he]; rfl, rfl, Rd.nil _ _, fun _ => rfl, by rw [tk_err he]; exact S⟩

set_option maxRecDepth 100000 in
theorem take_none (w : World) (n : Int) : Calls Tryz.prog 76 #[.pointer none, .int .i64 n] w fun e w' => e = .returned (.slice none 0 0) ∧ w = w' := by
  go_enter Tryz.func76, Tryz.ntmps76
  go_wp2_with fail
  go_ret
  exact ⟨rfl, rfl⟩

def Lowed (W0 : World) (L : List Asn) (p n : Nat) (bs : List Int) (e0 : Int) (e : Ending) (w' : World) : Prop :=
  e = .returned (.int .u32 (le (tk n bs e0).1)) ∧ Sat W0 w' (Rr p (tk n bs e0).2.1 (tk n bs e0).2.2 :: L)

set_option maxRecDepth 100000 in
theorem low_none (w : World) (n : Int) : Calls Tryz.prog 78 #[.pointer none, .int .i64 n] w fun e w' => e = .returned (.int .u32 0) ∧ w = w' := by
  go_enter Tryz.func78, Tryz.ntmps78
  go_wp2_with (go_at_call 76; refine (take_none _ _).mono ?_; rintro e w1 ⟨rfl, rfl⟩)
  refine wp_loop_once ?_
  go_wp2
  go_ret
  exact ⟨rfl, rfl⟩

set_option maxRecDepth 100000 in
theorem low_any {W0 w : World} {L : List Asn} {p : Nat} {bs : List Int} {e0 : Int} (S : Sat W0 w (Rr p bs e0 :: L)) (hB : Bytes bs) (n : Nat) (hn : n ≤ 4) :
    Calls Tryz.prog 78 #[.pointer (some ⟨p, 0, none⟩), .int .i64 n] w (Lowed W0 L p n bs e0) := by
  go_enter Tryz.func78, Tryz.ntmps78
  go_wp2_with (go_at_call 76; refine (take_any S n (by omega)).mono ?_; rintro e w1 ⟨ao, c, xs, HX, rfl, hR, h0, S2⟩)
  have hl : xs.length ≤ n := by rw [HX.out]; exact tk_length n bs e0
  have hb : Bytes xs := by rw [HX.out]; exact (tk_bytes (n := n) e0 hB).1
  clear h0
  go_loop [5, 12] (fun v i => ∃ k : Nat, k ≤ xs.length ∧ i = .int .i64 k ∧ v = .int .u32 (le (xs.take k))) (fun _ i => xs.length - (intOf i).toNat)
  case atStart => exact ⟨0, by omega, rfl, rfl⟩
  case round =>
    obtain ⟨k, hk, rfl, rfl⟩ := hrel
    by_cases hlt : k < xs.length
    · obtain ⟨x, hxk⟩ := at_some hlt
      obtain ⟨b, off, rfl, hc⟩ := hR k _ (cell_some hxk)
      have HS := Lib.hid (le_step' hb hxk (by omega))
      have hx := hb.some hxk
      clear hxk hR
      go_wp2
      go_round
      case rel => exact ⟨k + 1, by omega, by go_num, by rw [HS.out]⟩
      case measure => simp [intOf]; omega
    · go_wp2
      go_ret
      refine ⟨?_, S2⟩
      rw [← HX.out, List.take_of_length_le (by omega)]
      rfl

theorem rByte_any {W0 w : World} {L : List Asn} {p : Nat} {bs : List Int} {e0 : Int} (S : Sat W0 w (Rr p bs e0 :: L)) (hB : Bytes bs) :
    Calls Tryz.prog 61 #[.pointer (some ⟨p, 0, none⟩)] w fun e w' => e = .returned (.int .u8 (le (tk 1 bs e0).1)) ∧ Sat W0 w' (Rr p (tk 1 bs e0).2.1 (tk 1 bs e0).2.2 :: L) := by
  have hb := (tk_bytes (n := 1) e0 hB).1
  have h0 := le_lo hb
  have h1 : le (tk 1 bs e0).1 < 256 := le_top hb (tk_length 1 bs e0) (m := 1)
  go_enter Tryz.func61, Tryz.ntmps61
  go_wp2_with (go_at_call 78; refine (low_any S hB 1 (by omega)).mono ?_; rintro e w1 ⟨rfl, S2⟩)
  go_ret
  exact ⟨rfl, S2⟩

theorem rFour_any {W0 w : World} {L : List Asn} {p : Nat} {bs : List Int} {e0 : Int} (S : Sat W0 w (Rr p bs e0 :: L)) (hB : Bytes bs) :
    Calls Tryz.prog 60 #[.pointer (some ⟨p, 0, none⟩)] w fun e w' => e = .returned (.int .u32 (le (tk 4 bs e0).1)) ∧ Sat W0 w' (Rr p (tk 4 bs e0).2.1 (tk 4 bs e0).2.2 :: L) := by
  go_enter Tryz.func60, Tryz.ntmps60
  go_wp2_with (go_at_call 78; refine (low_any S hB 4 (by omega)).mono ?_; rintro e w1 ⟨rfl, S2⟩)
  go_ret
  exact ⟨rfl, S2⟩

def endOf (bs : List Int) (e : Int) : Int := if e = 0 ∧ 0 < bs.length then 3 else e

set_option maxRecDepth 100000 in
theorem end_any {W0 w : World} {L : List Asn} {p : Nat} {bs : List Int} {e0 : Int} (S : Sat W0 w (Rr p bs e0 :: L)) :
    Calls Tryz.prog 62 #[.pointer (some ⟨p, 0, none⟩)] w fun e w' => e = .returned (.int .i64 (endOf bs e0)) ∧ w = w' := by
  obtain ⟨ao, cap, S'⟩ := Rr_open.1 S
  have c0 := S'.cell 0 rfl 0
  have c1 := S'.cell 0 rfl 1
  simp only [List.getElem?_cons_zero, List.getElem?_cons_succ] at c0 c1
  by_cases he : e0 = 0
  · subst he
    by_cases hl : 0 < bs.length
    · go_enter Tryz.func62, Tryz.ntmps62
      go_wp2
      go_ret
      exact ⟨by simp [endOf, hl], rfl⟩
    · go_enter Tryz.func62, Tryz.ntmps62
      go_wp2
      go_ret
      exact ⟨by simp [endOf, hl], rfl⟩
  · have hne : (e0 == 0) = false := by simpa using he
    go_enter Tryz.func62, Tryz.ntmps62
    go_wp2
    go_ret
    exact ⟨by simp [endOf, he], rfl⟩

/-- a Num as it is taken -/
def Nummed (W0 : World) (L : List Asn) (p : Nat) (bs : List Int) (e0 : Int) (e : Ending) (w' : World) : Prop :=
  e = .returned (.int .i64 (rdNum bs e0).1) ∧ Sat W0 w' (Rr p (rdNum bs e0).2.1 (rdNum bs e0).2.2 :: L)

set_option maxRecDepth 100000 in
theorem rNum_any {W0 w : World} {L : List Asn} {p : Nat} {bs : List Int} {e0 : Int} (S : Sat W0 w (Rr p bs e0 :: L)) (hB : Bytes bs) :
    Calls Tryz.prog 59 #[.pointer (some ⟨p, 0, none⟩)] w (Nummed W0 L p bs e0) := by
  go_enter Tryz.func59, Tryz.ntmps59
  go_wp2_with fail
  go_loopw [3, 7] (fun u i wr => ∃ k : Nat, ∃ x : Int, ∃ ys, k ≤ 10 ∧ i = .int .i64 k ∧ u = .int .u64 x ∧ Bytes ys ∧ 0 ≤ x ∧ x < 128 ^ k ∧ Sat W0 wr (Rr p ys e0 :: L) ∧ Hid (rdNum bs e0 = rdNumFrom k x ys e0)) (fun _ i _ => 10 - (intOf i).toNat)
  case atStart => exact ⟨0, 0, bs, by omega, rfl, rfl, hB, by omega, by decide, S, rfl⟩
  case round =>
    obtain ⟨k, x, ys, hk, rfl, rfl, hys, hx0, hx1, S1, HE⟩ := hrel
    by_cases hlt : k < 10
    · by_cases he : e0 = 0
      · subst he
        cases ys with
        | nil =>
          go_wp2_with (go_at_call 76; refine (take_short S1 1 (by simp)).mono ?_; rintro e w1 ⟨rfl, S2⟩)
          go_ret
          exact ⟨by rw [HE.out, rdNumFrom_nil hlt]; rfl, by rw [HE.out, rdNumFrom_nil hlt]; exact S2⟩
        | cons cc r =>
          have hcc := hys cc (by simp)
          have hys' : Bytes r := fun x hx => hys x (by simp [hx])
          by_cases hbad : (k = 9 ∧ 1 < cc) ∨ (0 < k ∧ cc = 0)
          · have HB : Hid ((k = 9 ∧ 1 < cc) ∨ (0 < k ∧ cc = 0)) := hbad
            rcases hbad with ⟨h9, h1c⟩ | ⟨hk0, hcz⟩
            · have h9' : ((k : Int) == 9) = true := by rw [beq_iff_eq]; omega
              clear h9
              go_wp2_with (first | (go_at_call 76; refine (take_ok S1 1 (by simp) (by omega)).mono ?_; rintro e w1 ⟨ao, c, rfl, hR, h0, S2⟩; obtain ⟨b, off, rfl, hc⟩ := hR 0 (.int .u8 cc) (by simp [bv]); clear hR h0; rw [Nat.add_zero] at hc) | (go_at_call 77; refine (fail_any S2 3).mono ?_; rintro e w2 ⟨rfl, S3⟩))
              go_ret
              exact ⟨by rw [HE.out, rdNumFrom_bad hlt HB.out]; rfl, by rw [HE.out, rdNumFrom_bad hlt HB.out]; exact S3⟩
            · have h9' : ((k : Int) == 9) = true ∨ ((k : Int) == 9) = false := by cases ((k : Int) == 9) <;> simp
              have hcz' : (cc == 0) = true := by rw [beq_iff_eq]; exact hcz
              have hc1 : cc ≤ 1 := by omega
              clear hcz
              rcases h9' with h9' | h9'
              all_goals
                go_wp2_with (first | (go_at_call 76; refine (take_ok S1 1 (by simp) (by omega)).mono ?_; rintro e w1 ⟨ao, c, rfl, hR, h0, S2⟩; obtain ⟨b, off, rfl, hc⟩ := hR 0 (.int .u8 cc) (by simp [bv]); clear hR h0; rw [Nat.add_zero] at hc) | (go_at_call 77; refine (fail_any S2 3).mono ?_; rintro e w2 ⟨rfl, S3⟩))
                go_ret
                exact ⟨by rw [HE.out, rdNumFrom_bad hlt HB.out]; rfl, by rw [HE.out, rdNumFrom_bad hlt HB.out]; exact S3⟩
          · by_cases h128 : cc < 128
            · have hk9 : k < 9 ∨ (k = 9 ∧ cc ≤ 1) := by omega
              have HK : Hid (k < 9 ∨ (k = 9 ∧ cc ≤ 1)) := hk9
              have HN := Lib.hid hbad
              have h9' : (((k : Int) == 9) = true ∧ cc ≤ 1) ∨ ((k : Int) == 9) = false := by
                by_cases h9 : k = 9
                · exact .inl ⟨by rw [beq_iff_eq]; omega, by omega⟩
                · exact .inr (by rw [beq_eq_false_iff_ne]; omega)
              have hz' : (0 < k ∧ (cc == 0) = false) ∨ k ≤ 0 := by
                by_cases hk0 : 0 < k
                · exact .inl ⟨hk0, by rw [beq_eq_false_iff_ne]; intro h; exact hbad (.inr ⟨hk0, h⟩)⟩
                · exact .inr (by omega)
              clear hbad hk9
              rcases h9' with ⟨h9', hcc1⟩ | h9'
              all_goals
                rcases hz' with ⟨hk0, hcz⟩ | hk0
                all_goals
                  go_wp2_with (first | (go_at_call 76; refine (take_ok S1 1 (by simp) (by omega)).mono ?_; rintro e w1 ⟨ao, c, rfl, hR, h0, S2⟩; obtain ⟨b, off, rfl, hc⟩ := hR 0 (.int .u8 cc) (by simp [bv]); clear hR h0; rw [Nat.add_zero] at hc))
                  go_ret
                  rw [acc_num hx0 hx1 hcc.1 hcc.2 HK.out]
                  have hy0 : 0 ≤ x + cc % 128 * 128 ^ k := by have := (acc_bd hcc.1 HK.out).1; omega
                  rw [fin_num hy0 (acc_top hx1 hcc.1 HK.out)]
                  exact ⟨by rw [HE.out, rdNumFrom_last hlt HN.out h128, Int.emod_eq_of_lt hcc.1 h128]; rfl, by rw [HE.out, rdNumFrom_last hlt HN.out h128]; exact S2⟩
            · have h9 : k < 9 := by omega
              have h9' : ((k : Int) == 9) = false := by rw [beq_eq_false_iff_ne]; omega
              have hcz : (cc == 0) = false := by rw [beq_eq_false_iff_ne]; omega
              have HN := Lib.hid hbad
              clear hbad
              by_cases hk0 : 0 < k
              all_goals
                go_wp2_with (first | (go_at_call 76; refine (take_ok S1 1 (by simp) (by omega)).mono ?_; rintro e w1 ⟨ao, c, rfl, hR, h0, S2⟩; obtain ⟨b, off, rfl, hc⟩ := hR 0 (.int .u8 cc) (by simp [bv]); clear hR h0; rw [Nat.add_zero] at hc))
                rw [acc_num hx0 hx1 hcc.1 hcc.2 (.inl h9)]
                have hy0 : 0 ≤ x + cc % 128 * 128 ^ k := by have := (acc_bd hcc.1 (.inl h9)).1; omega
                have hy1 := acc_lt hx1 hcc.1 h9
                have HE' : Hid (rdNum bs 0 = rdNumFrom (k + 1) (x + cc % 128 * 128 ^ k) r 0) := by show _ = _; rw [HE.out, rdNumFrom_more hlt HN.out (by omega)]
                go_roundw
                case rel => exact ⟨k + 1, x + cc % 128 * 128 ^ k, r, by omega, by go_num, rfl, hys', hy0, hy1, S2, HE'⟩
                case measure => simp [intOf]; omega
      · go_wp2_with (go_at_call 76; refine (take_err S1 1 he).mono ?_; rintro e w1 ⟨rfl, rfl⟩)
        go_ret
        exact ⟨by rw [HE.out, rdNumFrom_err hlt he]; rfl, by rw [HE.out, rdNumFrom_err hlt he]; exact S1⟩
    · go_wp2_with (go_at_call 77; refine (fail_any S1 3).mono ?_; rintro e w2 ⟨rfl, S3⟩)
      go_ret
      exact ⟨by rw [HE.out, rdNumFrom_ten (by omega)]; rfl, by rw [HE.out, rdNumFrom_ten (by omega)]; exact S3⟩
end Go.Proofs.YtjdeeloemhjbhaaGreat
end

section
namespace Go.Proofs.YtjdeeloemhjbhaaGreat
open Go.RowKit Go.Sep Go.Oct

theorem Rd.none_nil {w : World} {xs : List Value} (h : Rd w none xs) : xs = [] := by
  cases xs with
  | nil => rfl
  | cons u r => obtain ⟨_, _, h, _⟩ := h 0 u rfl; cases h
theorem bv_nil {xs : List Int} (h : bv xs = []) : xs = [] := by simpa [bv] using h

/-- Clone, whatever the slice -/
theorem clone_any {W0 w : World} {L : List Asn} (S : Sat W0 w L) {a : Option Addr} {m c : Nat} {xs : List Int} (hR : Rd w a (bv xs)) (hm : xs.length = m) (h0 : a = none → c = 0) (hb : m ≤ 1099511627776) :
    Calls Tryz.prog 75 #[.slice a m c] w fun e w' => ∃ ao cap, e = .returned (.slice ao m cap) ∧ Sat W0 w' (sbs ao m cap xs :: L) := by
  cases a with
  | some a => exact clone_some S hR hm hb
  | none =>
    obtain rfl := h0 rfl
    obtain rfl := bv_nil (Rd.none_nil hR)
    obtain rfl : m = 0 := by simpa using hm.symm
    refine (clone_nil w).mono ?_
    rintro e w' ⟨rfl, rfl⟩
    exact ⟨none, 0, rfl, Sat.own_none.2 ⟨rfl, rfl, rfl, S⟩⟩

theorem sbs_rd {W0 w : World} {L : List Asn} {ao : Option Addr} {n cap : Nat} {bs : List Int} (S : Sat W0 w (sbs ao n cap bs :: L)) : Rd w ao (bv bs) ∧ bs.length = n ∧ n ≤ cap ∧ (ao = none → cap = 0) := by
  obtain ⟨h1, h2, h3, h4⟩ := Sat.own_len S
  exact ⟨Sat.own_rd S, by simpa [bv_length] using h1, h2, fun h => (h4 h).2⟩

set_option maxRecDepth 100000 in
theorem out_any {W0 w : World} {L : List Asn} {p : Nat} {bs : List Int} (S : Sat W0 w (Wr p bs :: L)) (hb : bs.length ≤ 1099511627776) :
    Calls Tryz.prog 67 #[.pointer (some ⟨p, 0, none⟩)] w fun e w' => ∃ ao cap, e = .returned (.slice ao bs.length cap) ∧ Sat W0 w' (sbs ao bs.length cap bs :: Wr p bs :: L) := by
  obtain ⟨ao, cap, S'⟩ := Wr_open.1 S
  obtain ⟨hR, _, _, h0⟩ := sbs_rd S'.swap
  have c0 := S'.cell 0 rfl 0
  simp only [List.getElem?_cons_zero] at c0
  go_enter Tryz.func67, Tryz.ntmps67
  go_wp2_with (go_at_call 75; refine (clone_any S hR rfl h0 hb).mono ?_; rintro e w' ⟨ao', cap', rfl, S2⟩)
  go_ret
  exact ⟨ao', cap', rfl, S2⟩

set_option maxRecDepth 100000 in
theorem out_none (w : World) : Calls Tryz.prog 67 #[.pointer none] w fun e w' => e = .returned (.slice none 0 0) ∧ w = w' := by
  go_enter Tryz.func67, Tryz.ntmps67
  go_wp2
  go_ret
  exact ⟨rfl, rfl⟩

set_option maxRecDepth 100000 in
theorem newReader_any {W0 w : World} {L : List Asn} (S : Sat W0 w L) {a : Option Addr} {m c : Nat} {xs : List Int} (hR : Rd w a (bv xs)) (hm : xs.length = m) (h0 : a = none → c = 0) (hb : m ≤ 1099511627776) :
    Calls Tryz.prog 58 #[.slice a m c] w fun e w' => ∃ p, e = .returned (.pointer (some ⟨p, 0, none⟩)) ∧ Sat W0 w' (Rr p xs 0 :: L) := by
  go_enter Tryz.func58, Tryz.ntmps58
  go_wp2_with (go_at_call 75; refine (clone_any S hR hm h0 hb).mono ?_; rintro e w' ⟨ao', cap', rfl, S2⟩)
  go_ret
  refine ⟨w'.heap.size, rfl, Rr_open.2 ⟨ao', cap', ?_⟩⟩
  rw [hm]
  exact S2.alloc [.slice ao' m cap', .int .i64 0] _

/-- Bytes as they are taken -/
def Bytesd (W0 : World) (L : List Asn) (p : Nat) (bs : List Int) (e0 : Int) (e : Ending) (w' : World) : Prop :=
  ∃ ao cap xs, Hid (xs = (rdBytes bs e0).1) ∧ e = .returned (.slice ao xs.length cap) ∧ Sat W0 w' (sbs ao xs.length cap xs :: Rr p (rdBytes bs e0).2.1 (rdBytes bs e0).2.2 :: L)

theorem rdBytes_bad {bs : List Int} {e : Int} (h : (rdNum bs e).1 < 0 ∨ 16777216 < (rdNum bs e).1) : rdBytes bs e = ([], [], 3) := by unfold rdBytes; rw [if_pos h]
theorem rdBytes_ok {bs : List Int} {e : Int} (h : ¬ ((rdNum bs e).1 < 0 ∨ 16777216 < (rdNum bs e).1)) : rdBytes bs e = tk (rdNum bs e).1.toNat (rdNum bs e).2.1 (rdNum bs e).2.2 := by unfold rdBytes; rw [if_neg h]

end Go.Proofs.YtjdeeloemhjbhaaGreat
end
